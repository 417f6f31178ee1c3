import Derived.Test.YtahcalhpigmbgaaHK
import Derived.Test.YtahcalhpigmbgaaHRk
namespace Go.Proofs.Ytahcalhpigmbgaa.H
open Go.RowKit Go.Proofs.YtahcalhpigmbgaaW.PrintWords Go.Proofs.YtahcalhpigmbgaaW.PrintLast Go.Proofs.YtahcalhpigmbgaaW.PrintMore
set_option linter.unusedVariables false
set_option linter.unusedSimpArgs false
/-! the reference's Right -/
theorem outlo {n lo hi : Int} (h : n < lo) : inB n lo hi = false := by simp [inB]; omega
theorem outhi {n lo hi : Int} (h : hi < n) : inB n lo hi = false := by simp [inB]; omega
set_option maxHeartbeats 8000000 in
set_option maxRecDepth 100000 in
theorem RightR_c (A0 : Option Addr) (c0 : Nat) (ks : List SGunKind) (A1 : Int → Option Addr) (C1 : Int → Nat) (B0 : Option Addr) (d0 : Nat) (l : List SGun) (w : World) (r : Int) (h : rightS ks l = r) (hr0 : RdGK w A0 ks A1 C1) (hr1 : Kd.C kGun w B0 l.length l) :
    Calls Try.prog 12 #[.slice A0 ks.length c0, .slice B0 l.length d0] w fun e w' => e = .returned (.int .i64 r) ∧ Up w w' := by
  have hu2 := Try.underlying31
  have hu := Try.underlying39
  have HB := Up.refl w
  by_cases g1 : 64 < ks.length
  · obtain rfl : 4 = r := by simpa [rightS, g1] using h
    have g2 := decide_eq_true (show (64 : Int) < (ks.length : Int) by omega)
    clear h
    go_enter Try.func12, Try.ntmps12
    go_wp2
    go_ret
    exact ⟨rfl, HB⟩
  by_cases g3 : 64 < l.length
  · obtain rfl : 4 = r := by simpa [rightS, g3] using h
    have g4 := decide_eq_true (show (64 : Int) < (l.length : Int) by omega)
    have g2 := decide_eq_false (show ¬ (64 : Int) < (ks.length : Int) by omega)
    clear h
    go_enter Try.func12, Try.ntmps12
    go_wp2
    go_ret
    exact ⟨rfl, HB⟩
  have HS := Aside0.mk (show (if errF (kindE ks) (ks.length - (0 : Int).toNat) 0 = 0 then errF (gunE ks l) (l.length - (0 : Int).toNat) 0 else errF (kindE ks) (ks.length - (0 : Int).toNat) 0) = r by have h := h; rw [rightS, if_neg (by omega)] at h; exact h)
  have HN := Aside0.mk (show ks.length ≤ 64 ∧ l.length ≤ 64 by omega)
  have HR0 := Aside0.mk hr0
  have HR1 := Aside0.mk hr1
  have g4 := decide_eq_false (show ¬ (64 : Int) < (l.length : Int) by omega)
  have g2 := decide_eq_false (show ¬ (64 : Int) < (ks.length : Int) by omega)
  clear h hr0 hr1 g1 g3
  go_enter Try.func12, Try.ntmps12
  go_wp2
  go_loopg [5] (ks.length) (fun gk v5 w' => ∃ i : Int, v5 = .int .i64 i ∧ 0 ≤ i ∧ ks.length - i.toNat ≤ gk ∧ Aside0 (errF (kindE ks) (ks.length - (0 : Int).toNat) 0 = errF (kindE ks) (ks.length - i.toNat) i) ∧ Up w w')
  case atStart => exact ⟨0, rfl, by omega, by omega, ⟨rfl⟩, HB⟩
  case round =>
    clear HB
    obtain ⟨i, rfl, hi, hg, HE, HB⟩ := hrel
    have HI := Aside0.mk hi
    by_cases hlt : i < ks.length
    · have HE := Aside0.mk (HE.out.trans (errF_step hi hlt))
      have HL := Aside0.mk hlt
      have hlt2 := decide_eq_true hlt
      replace hi := eq_true hi; replace hlt := eq_true hlt
      obtain ⟨e, he⟩ : ∃ e, kindE ks i = e := ⟨_, rfl⟩
      have HK := Aside0.mk he
      clear he
      go_wp2_with fail
      (with_reducible refine (kindR_c _ _ _ A1 C1 _ _ _ HK.out HI.out HL.out (HR0.out.up HB)).mono ?_)
      rintro en w2 ⟨rfl, hb⟩
      have HB2 := HB.step hb
      by_cases t1 : e = 0
      · have HE := Aside0.mk (show errF (kindE ks) (ks.length - (0 : Int).toNat) 0 = errF (kindE ks) (ks.length - (i + 1).toNat) (i + 1) by have h := HE.out; rwa [if_pos (HK.out.trans t1)] at h)
        have t1n := bne_eq_false_iff_eq.mpr t1; replace t1 := beq_iff_eq.mpr t1
        go_wp2
        go_roundg (gk - 1)
        case measure => have := HL.out; have := HI.out; omega
        case rel => exact ⟨i + 1, (by first | rfl | (simp; done) | (have := HL.out; have := HI.out; have := HN.out; congr 1; unfold wrap64; omega)), by have := HI.out; omega, by have := HL.out; have := HI.out; omega, HE, HB2⟩
      · have h0 : errF (kindE ks) (ks.length - (0 : Int).toNat) 0 = e := by rw [HE.out, if_neg (by rw [HK.out]; exact t1)]; exact HK.out
        have HS := Aside0.mk (show e = r by have h := HS.out; rw [h0, if_neg t1] at h; exact h)
        clear h0
        have t1n := bne_iff_ne.mpr t1; replace t1 := beq_eq_false_iff_ne.mpr t1
        go_wp2
        go_ret
        exact ⟨ret_i HS.out, HB2⟩
    · have hE : errF (kindE ks) (ks.length - (0 : Int).toNat) 0 = 0 := HE.out.trans (errF_end (by omega))
      have HS := Aside0.mk (show errF (gunE ks l) (l.length - (0 : Int).toNat) 0 = r by have h := HS.out; rwa [if_pos hE] at h)
      clear hE
      replace hlt := decide_eq_false hlt
      go_wp2
      clear HE HI hi hg
      go_loopg [7] (l.length) (fun gk v7 w' => ∃ i : Int, v7 = .int .i64 i ∧ 0 ≤ i ∧ l.length - i.toNat ≤ gk ∧ Aside0 (errF (gunE ks l) (l.length - i.toNat) i = r) ∧ Up w w')
      case atStart => exact ⟨0, rfl, by omega, by omega, HS, HB⟩
      case round =>
        clear HS HB
        obtain ⟨i, rfl, hi, hg, HS, HB⟩ := hrel
        have HI := Aside0.mk hi
        by_cases hlt : i < l.length
        · have HS := Aside0.mk ((errF_step hi hlt).symm.trans HS.out)
          have HL := Aside0.mk hlt
          obtain ⟨bd, rfl⟩ : ∃ ad, B0 = some ad := by obtain ⟨ad, c, e, _⟩ := Kd.C_get HR1.out zGun i hi hlt; exact ⟨ad, e⟩
          obtain ⟨hx0, hx1, hx2, hx3, hx4, hx5, hx6, hx7⟩ := rx_Gun HR1.out
          have hlt2 := decide_eq_true hlt
          replace hi := eq_true hi; replace hlt := eq_true hlt
          cases t1 : inB (rd_Gun l i).f0 1 9999
          rotate_left
          cases t2 : inB (rd_Gun l i).f1 1 9999
          rotate_left
          cases t3 : inB (rd_Gun l i).f2 1 9999
          rotate_left
          by_cases t4 : (rd_Gun l i).f4 < 0
          rotate_left
          by_cases t5 : 2 < (rd_Gun l i).f4
          rotate_left
          by_cases t6 : (rd_Gun l i).f5 < 0
          rotate_left
          by_cases t7 : 20000000 < (rd_Gun l i).f5
          rotate_left
          cases t8 : inB (rd_Gun l i).f6 0 86400
          rotate_left
          cases t9 : inB (rd_Gun l i).f7 0 86400
          rotate_left
          · have HT := Aside0.mk (show gunBad (rd_Gun l i) = false by simp [gunBad, t1, t2, t3, in2 t4 t5, in2 t6 t7, t8, t9])
            replace t4 := decide_eq_false t4; replace t5 := decide_eq_false t5; replace t6 := decide_eq_false t6; replace t7 := decide_eq_false t7
            go_wp2_with (first | (go_at_call 41; (with_reducible refine (id_q _ _).mono ?_); rintro e w' ⟨rfl, rfl⟩) | (go_at_call 42; (with_reducible refine (day_q _ _).mono ?_); rintro e w' ⟨rfl, rfl⟩))
            obtain ⟨W1, hW⟩ : ∃ W, W = wr.alloc (.cells #[.int .i64 (rd_Gun l i).f0, .int .i64 (rd_Gun l i).f1, .int .i64 (rd_Gun l i).f2, .int .i64 (rd_Gun l i).f3, .int .i64 (rd_Gun l i).f4, .int .i64 (rd_Gun l i).f5, .int .i64 (rd_Gun l i).f6, .int .i64 (rd_Gun l i).f7] 31) := ⟨_, rfl⟩
            rw [← hW]
            have hk : W1.heap[wr.heap.size]? = some (.cells #[.int .i64 (rd_Gun l i).f0, .int .i64 (rd_Gun l i).f1, .int .i64 (rd_Gun l i).f2, .int .i64 (rd_Gun l i).f3, .int .i64 (rd_Gun l i).f4, .int .i64 (rd_Gun l i).f5, .int .i64 (rd_Gun l i).f6, .int .i64 (rd_Gun l i).f7] 31 (0, 0)) := by rw [hW]; exact blk_new wr _
            have HUW := Aside0.mk (show Up w W1 by rw [hW]; exact HB.alloc _)
            have q0 : ∀ W, Up W1 W → W.cell? ⟨wr.heap.size, 0, none⟩ = some (.int .i64 (rd_Gun l i).f0) := fun W u => (blk_cell (Up.blk u hk) 0).trans rfl
            have q3 : ∀ W, Up W1 W → W.cell? ⟨wr.heap.size, 3, none⟩ = some (.int .i64 (rd_Gun l i).f3) := fun W u => (blk_cell (Up.blk u hk) 3).trans rfl
            clear hW hk
            have HX := Aside0.mk (gunX_take (l := l) (id := (rd_Gun l i).f0) (m := i.toNat) (by have := HL.out; have := HI.out; omega))
            have HB1 := Up.refl W1
            obtain ⟨ga, rfl⟩ : ∃ x : Nat, x = gk := ⟨_, rfl⟩
            have HG := Aside0.mk hg
            clear HB t1 t2 t3 t4 t5 t6 t7 t8 t9 hg
            generalize wr.heap.size = B at q0 q3 ⊢
            go_loopg [9] (i.toNat) (fun gk v9 w' => ∃ j : Int, v9 = .int .i64 j ∧ 0 ≤ j ∧ i.toNat - j.toNat ≤ gk ∧ Aside0 (idxF (fun j => (rd_Gun l j).f0 == (rd_Gun l i).f0) (i.toNat - j.toNat) j = gunX (l.take i.toNat) (rd_Gun l i).f0) ∧ Up W1 w')
            case atStart => exact ⟨0, rfl, by omega, by omega, ⟨HX.out.symm⟩, HB1⟩
            case round =>
              clear HB1 HX
              obtain ⟨j, rfl, hj, hg, HX, HB1⟩ := hrel
              have HJ := Aside0.mk hj
              have HB := Up.step HUW.out HB1
              by_cases hlt3 : j < i
              · have HL2 := Aside0.mk hlt3
                have HX := Aside0.mk ((idxF_step (p := fun j => (rd_Gun l j).f0 == (rd_Gun l i).f0) (n := i.toNat) hj (by omega)).symm.trans HX.out)
                have hln : j < l.length := by have := HL.out; omega
                have hlt4 := decide_eq_true hlt3
                replace hj := eq_true hj; replace hlt3 := eq_true hlt3; replace hln := eq_true hln
                by_cases t1 : (rd_Gun l j).f0 = (rd_Gun l i).f0
                · have HO := Aside0.mk (show gunE ks l i = 7 by have h := HX.out; rw [if_pos (by simpa using t1)] at h; have := HJ.out; simp [gunE, HT.out, ← h]; omega)
                  have HS := Aside0.mk (show 7 = r by have h := HS.out; rw [HO.out] at h; simpa using h)
                  have t1n := bne_eq_false_iff_eq.mpr t1; replace t1 := beq_iff_eq.mpr t1
                  go_wp2; go_quiet (fail); go_wp2
                  go_ret
                  exact ⟨ret_i HS.out, (by repeat (with_reducible first | exact HB | apply Up.alloc | apply Up.drewN | apply Up.drew))⟩
                · have HX := Aside0.mk ((if_neg (by simpa using t1)).symm.trans HX.out)
                  have t1n := bne_iff_ne.mpr t1; replace t1 := beq_eq_false_iff_ne.mpr t1
                  go_wp2; go_quiet (fail); go_wp2
                  go_roundg (gk - 1)
                  case measure => have := HL2.out; have := HJ.out; omega
                  case rel => exact ⟨j + 1, (by first | rfl | (simp; done) | (have := HL2.out; have := HL.out; have := HJ.out; have := HN.out; congr 1; unfold wrap64; omega)), by have := HJ.out; omega, by have := HL2.out; have := HJ.out; omega, HX, (by repeat (with_reducible first | exact HB1 | apply Up.alloc | apply Up.drewN | apply Up.drew))⟩
              · have hx : gunX (l.take i.toNat) (rd_Gun l i).f0 = -1 := HX.out.symm.trans (idxF_end (by omega))
                have HO := Aside0.mk (show gunE ks l i = if kindX ks (rd_Gun l i).f3 < 0 then 8 else 0 by simp [gunE, HT.out, hx])
                clear hx HX
                replace hlt3 := decide_eq_false hlt3
                rcases kindX_cases ks (rd_Gun l i).f3 with hx | hx
                · have HX := Aside0.mk hx
                  have HS := Aside0.mk (show 8 = r by have h := HS.out; rw [HO.out, hx] at h; simpa using h)
                  clear hx
                  go_wp2_with fail
                  (with_reducible refine (find_no _ _ _ A1 C1 _ _ HX.out (HR0.out.up HB)).mono ?_)
                  rintro e w2 ⟨rfl, hb2⟩
                  have HB3 := HB.step hb2
                  go_wp2
                  go_ret
                  exact ⟨ret_i HS.out, (by repeat (with_reducible first | exact HB3 | apply Up.alloc | apply Up.drewN | apply Up.drew))⟩
                · obtain ⟨m, hm⟩ : ∃ m, kindX ks (rd_Gun l i).f3 = m := ⟨_, rfl⟩
                  have HM := Aside0.mk hm
                  have HX := Aside0.mk (show 0 ≤ m by omega)
                  have HS := Aside0.mk ((if_pos (HO.out.trans (if_neg (show ¬ kindX ks (rd_Gun l i).f3 < 0 by omega)))).symm.trans HS.out)
                  clear hx hm
                  go_wp2_with fail
                  (with_reducible refine (find_yes _ _ _ A1 C1 _ m _ HM.out HX.out (HR0.out.up HB)).mono ?_)
                  rintro e w2 ⟨rfl, hb2⟩
                  have HB3 := HB.step hb2
                  go_wp2
                  go_roundg (ga - 1)
                  case measure => have := HG.out; have := HL.out; have := HI.out; omega
                  case rel => exact ⟨i + 1, (by first | rfl | (simp; done) | (have := HL.out; have := HI.out; have := HN.out; congr 1; unfold wrap64; omega)), by have := HI.out; omega, by have := HG.out; have := HL.out; have := HI.out; omega, HS, (by repeat (with_reducible first | exact HB3 | apply Up.alloc | apply Up.drewN | apply Up.drew))⟩
          all_goals
            have HO := Aside0.mk (show gunE ks l i = 2 by first | (simp [gunE, gunBad, outlo t4]; done) | (simp [gunE, gunBad, outhi t5]; done) | (simp [gunE, gunBad, outlo t6]; done) | (simp [gunE, gunBad, outhi t7]; done) | (simp [gunE, gunBad, *]; done))
            have HS := Aside0.mk (show 2 = r by have h := HS.out; rw [HO.out] at h; simpa using h)
            (first | replace t4 := decide_eq_false t4 | replace t4 := decide_eq_true t4 | skip); (first | replace t5 := decide_eq_false t5 | replace t5 := decide_eq_true t5 | skip); (first | replace t6 := decide_eq_false t6 | replace t6 := decide_eq_true t6 | skip); (first | replace t7 := decide_eq_false t7 | replace t7 := decide_eq_true t7 | skip)
            go_wp2_with (first | (go_at_call 41; (with_reducible refine (id_q _ _).mono ?_); rintro e w' ⟨rfl, rfl⟩) | (go_at_call 42; (with_reducible refine (day_q _ _).mono ?_); rintro e w' ⟨rfl, rfl⟩))
            go_ret
            exact ⟨ret_i HS.out, (by repeat (with_reducible first | exact HB | apply Up.alloc | apply Up.drewN | apply Up.drew))⟩
        · have HS := Aside0.mk ((errF_end (by omega : (l.length : Int) ≤ i)).symm.trans HS.out)
          replace hlt := decide_eq_false hlt
          go_wp2
          go_ret
          exact ⟨ret_i HS.out, HB⟩

end Go.Proofs.Ytahcalhpigmbgaa.H
