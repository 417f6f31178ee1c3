import Derived.Test.YtecpojiinappcaaHK
import Derived.Test.YtecpojiinappcaaHLp
import Derived.Test.YtecpojiinappcaaHHd
namespace Go.Proofs.Ytecpojiinappcaa.H
open Go.RowKit Go.Proofs.YtecpojiinappcaaW.PrintWords Go.Proofs.YtecpojiinappcaaW.PrintLast Go.Proofs.YtecpojiinappcaaW.PrintMore
set_option linter.unusedVariables false
set_option linter.unusedSimpArgs false
/-! PondInflow -/
attribute [local go_sem] undef
set_option maxHeartbeats 16000000 in
set_option maxRecDepth 100000 in
theorem PondInflow_c (A0 : Option Addr) (c0 : Nat) (l : List SPond) (t0 t1 : Int) (w : World) (hr0 : Kd.C kPond w A0 l.length l) :
    Calls Try.prog 8 #[.slice A0 l.length c0, .agg #[.int .i64 t0, .int .i64 t1]] w fun e w' => e = .returned (.bool true) ∧ Up w w' := by
  have hu := Try.underlying38
  have HR := Aside0.mk hr0
  have HB := Up.refl w
  clear hr0
  go_enter Try.func8, Try.ntmps8
  go_wp2_with fail
  (with_reducible refine (alive_c _).mono ?_)
  rintro e w1 ⟨rfl, hb⟩
  have hk3 := Up.blk hb (blk_new w _)
  have HB1 := Up.step (HB.alloc _) hb
  clear hb
  obtain ⟨b, hb⟩ : ∃ b, (ponR l == 0) = b := ⟨_, rfl⟩
  have HL := Aside0.mk hb
  clear hb
  go_wp2_with fail
  (with_reducible refine (lawRight_c A0 c0 l _ b HL.out (C_up HR.out HB1)).mono ?_)
  rintro e w2 ⟨rfl, hb⟩
  have hk3 := Up.blk hb hk3
  have HB2 := Up.step HB1 hb
  clear hb
  cases b
  · go_wp2
    go_ret
    exact ⟨rfl, HB2⟩
  have HR0 := Aside0.mk (beq_iff_eq.1 HL.out)
  have HP := Aside0.mk (ponR_ok HR0.out)
  obtain ⟨g3, hg3⟩ : ∃ g, g = w.heap.size := ⟨_, rfl⟩
  rw [← hg3] at hk3 ⊢
  clear hg3
  have T0 : ∀ W, Up w2 W → W.cell? ⟨g3, 0, none⟩ = some (.int .i64 t0) := fun W u => (blk_cell (Up.blk u hk3) 0).trans rfl
  have T1 : ∀ W, Up w2 W → W.cell? ⟨g3, 1, none⟩ = some (.int .i64 t1) := fun W u => (blk_cell (Up.blk u hk3) 1).trans rfl
  have HBW := Aside0.mk HB2
  have HR := Aside0.mk (C_up HR.out HB2)
  have HB := Up.refl w2
  clear hk3 HB2 HB1
  obtain ⟨lo, hlo⟩ : ∃ lo, (if t1 < t0 then t1 else t0) = lo := ⟨_, rfl⟩
  obtain ⟨hi, hhi⟩ : ∃ hi, (if t0 < t1 then t1 else t0) = hi := ⟨_, rfl⟩
  have HLH := Aside0.mk (show lo ≤ hi by rw [← hlo, ← hhi]; split <;> split <;> omega)
  obtain ⟨X, n, e1, hX⟩ : ∃ (R : List SPond) (m e : Int), fillS l lo = (R, m, e) := ⟨_, _, _, rfl⟩
  obtain ⟨Y, m, e2, hY⟩ : ∃ (R : List SPond) (m e : Int), fillS l hi = (R, m, e) := ⟨_, _, _, rfl⟩
  have HX := Aside0.mk hX
  have HY := Aside0.mk hY
  clear hX hY
  go_wp2_with fail
  (with_reducible refine (Fill_c A0 c0 l lo _ X n e1 HX.out HP.out (C_up HR.out HB)).mono ?_)
  rintro e w3 ⟨v, rfl, hR, hb⟩
  obtain ⟨XA, xc, rfl, -, hC⟩ := Kd.R_reads hR
  have HCX := Aside0.mk hC
  have HB := Up.step HB hb
  clear hb hR hC
  go_wp2_with fail
  (with_reducible refine (Fill_c A0 c0 l hi _ Y m e2 HY.out HP.out (C_up HR.out HB)).mono ?_)
  rintro e w4 ⟨v, rfl, hR, hb⟩
  obtain ⟨YA, yc, rfl, -, hC⟩ := Kd.R_reads hR
  have HCX := Aside0.mk (C_up HCX.out hb)
  have HCY := Aside0.mk hC
  have HB := Up.step HB hb
  clear hb hR hC hlo hhi
  have HFZ := Aside0.mk (fill_zero HP.out)
  go_wp2_with fail
  (with_reducible refine (Fill_c A0 c0 l 0 _ l 0 0 HFZ.out HP.out (C_up HR.out HB)).mono ?_)
  rintro e w5 ⟨v, rfl, hR, hb⟩
  obtain ⟨ZA, zc, rfl, -, hC⟩ := Kd.R_reads hR
  have HCX := Aside0.mk (C_up HCX.out hb)
  have HCY := Aside0.mk (C_up HCY.out hb)
  have HCZ := Aside0.mk hC
  have HB := Up.step HB hb
  clear hb hR hC
  go_wp2_with fail
  (with_reducible refine (SamePond_n l.length ZA zc l A0 c0 _ rfl HCZ.out (C_up HR.out HB)).mono ?_)
  rintro e w6 ⟨rfl, hb⟩
  have HCX := Aside0.mk (C_up HCX.out hb)
  have HCY := Aside0.mk (C_up HCY.out hb)
  have HB6 := Aside0.mk (Up.step HBW.out (Up.step HB hb))
  have HR := Aside0.mk (C_up HR.out (Up.step HB hb))
  clear hb HB T0 T1 HCZ
  by_cases q1 : lo < 0 ∨ 86400 < lo
  · have hs : fillS l lo = ([], 0, 2) := by unfold fillS; rw [if_pos q1]
    have hs := hs.symm.trans HX.out
    simp only [Prod.mk.injEq] at hs
    obtain ⟨rfl, rfl, rfl⟩ := hs
    clear q1
    go_wp2
    go_ret
    exact ⟨by simp, HB6.out⟩
  have hs : fillS l lo = (genL (fl l lo) l.length, inS l lo, 0) := by unfold fillS; rw [if_neg q1]
  have hs := hs.symm.trans HX.out
  simp only [Prod.mk.injEq] at hs
  obtain ⟨hX, hn, rfl⟩ := hs
  by_cases q2 : hi < 0 ∨ 86400 < hi
  · have hs : fillS l hi = ([], 0, 2) := by unfold fillS; rw [if_pos q2]
    have hs := hs.symm.trans HY.out
    simp only [Prod.mk.injEq] at hs
    obtain ⟨rfl, rfl, rfl⟩ := hs
    clear q1 q2 hX hn
    go_wp2
    go_ret
    exact ⟨by simp, HB6.out⟩
  have hs : fillS l hi = (genL (fl l hi) l.length, inS l hi, 0) := by unfold fillS; rw [if_neg q2]
  have hs := hs.symm.trans HY.out
  simp only [Prod.mk.injEq] at hs
  obtain ⟨hY, hm, rfl⟩ := hs
  have HLO := Aside0.mk (show 0 ≤ lo ∧ lo ≤ hi by have := HLH.out; omega)
  have hXl : X.length = l.length := by rw [← hX]; exact genL_len _ _
  have hYl : Y.length = l.length := by rw [← hY]; exact genL_len _ _
  have HV := Aside0.mk (show ∀ i : Int, 0 ≤ i → i < l.length → (rd_Pond X i).f1 = (rd_Pond l i).f1 + inF (rd_Pond l i) lo ∧ (rd_Pond Y i).f1 = (rd_Pond l i).f1 + inF (rd_Pond l i) hi from fun i a c => by
    rw [← hX, ← hY, rdP_gen a c, rdP_gen a c]; exact ⟨rfl, rfl⟩)
  have hmono := inS_mono HP.out HLO.out.1 HLO.out.2
  rw [hn, hm] at hmono
  have HMN := Aside0.mk hmono
  rw [hXl] at HCX ⊢
  rw [hYl] at HCY ⊢
  clear q1 q2 hX hY hn hm hXl hYl hmono HX HY
  have HB := Up.refl w6
  go_wp2
  go_loopg [14] (l.length) (fun gk v14 w' => ∃ i : Int, v14 = .int .i64 i ∧ 0 ≤ i ∧ l.length - i.toNat ≤ gk ∧ Aside0 (Up w6 w'))
  case atStart => exact ⟨0, rfl, by omega, by omega, ⟨HB⟩⟩
  case round =>
    clear HB
    obtain ⟨i, rfl, hi0, hg, HB⟩ := hrel
    have HI := Aside0.mk hi0
    have HG := Aside0.mk hg
    clear hg
    by_cases hlt : i < l.length
    · have HL := Aside0.mk hlt
      obtain ⟨ad, rfl⟩ : ∃ ad, A0 = some ad := by obtain ⟨ad, c, e, _⟩ := Kd.C_get HR.out zPond i hi0 hlt; exact ⟨ad, e⟩
      obtain ⟨xd, rfl⟩ : ∃ ad, XA = some ad := by obtain ⟨ad, c, e, _⟩ := Kd.C_get HCX.out zPond i hi0 hlt; exact ⟨ad, e⟩
      obtain ⟨yd, rfl⟩ : ∃ ad, YA = some ad := by obtain ⟨ad, c, e, _⟩ := Kd.C_get HCY.out zPond i hi0 hlt; exact ⟨ad, e⟩
      obtain ⟨-, a1, -, a3, -⟩ := rx_Pond HR.out
      obtain ⟨-, x1, -, -, -⟩ := rx_Pond HCX.out
      obtain ⟨-, y1, -, -, -⟩ := rx_Pond HCY.out
      obtain ⟨hxv, hyv⟩ := HV.out i hi0 hlt
      have hpo := HP.out.2 i hi0 hlt
      have hin := inF_b hpo HLO.out.1
      have hin2 := inF_b hpo (show 0 ≤ hi by have := HLO.out; omega)
      have him := inF_mono hpo HLO.out.1 HLO.out.2
      obtain ⟨f1, hf1⟩ : ∃ z, (rd_Pond l i).f1 = z := ⟨_, rfl⟩
      obtain ⟨f3, hf3⟩ : ∃ z, (rd_Pond l i).f3 = z := ⟨_, rfl⟩
      obtain ⟨p, hp⟩ : ∃ z, f1 + inF (rd_Pond l i) lo = z := ⟨_, rfl⟩
      obtain ⟨q, hq⟩ : ∃ z, f1 + inF (rd_Pond l i) hi = z := ⟨_, rfl⟩
      rw [hf1, hp] at hxv
      rw [hf1, hq] at hyv
      rw [hf1, hf3] at hin hin2
      have A1 := Aside0.mk (show ∀ W, Up wr W → W.cell? ⟨(ad.add (i.toNat * 5)).block, (ad.add (i.toNat * 5)).off + 1, none⟩ = some (.int .i64 f1) from fun W u => by rw [← hf1]; exact a1 W i (Up.step HB.out u) hi0 hlt)
      have A3 := Aside0.mk (show ∀ W, Up wr W → W.cell? ⟨(ad.add (i.toNat * 5)).block, (ad.add (i.toNat * 5)).off + 3, none⟩ = some (.int .i64 f3) from fun W u => by rw [← hf3]; exact a3 W i (Up.step HB.out u) hi0 hlt)
      have X1 := Aside0.mk (show ∀ W, Up wr W → W.cell? ⟨(xd.add (i.toNat * 5)).block, (xd.add (i.toNat * 5)).off + 1, none⟩ = some (.int .i64 p) from fun W u => by rw [← hxv]; exact x1 W i (Up.step HB.out u) hi0 hlt)
      have Y1 := Aside0.mk (show ∀ W, Up wr W → W.cell? ⟨(yd.add (i.toNat * 5)).block, (yd.add (i.toNat * 5)).off + 1, none⟩ = some (.int .i64 q) from fun W u => by rw [← hyv]; exact y1 W i (Up.step HB.out u) hi0 hlt)
      have HQ := Aside0.mk (show f1 ≤ p ∧ p ≤ q ∧ q ≤ f3 by omega)
      have v1 : decide ((l.length : Int) ≤ i) = false := decide_eq_false (by omega)
      have v2 : decide (p < f1) = false := decide_eq_false (by omega)
      have v3 : decide (q < p) = false := decide_eq_false (by omega)
      have hlt2 := decide_eq_true hlt
      clear a1 a3 x1 y1 hxv hyv hpo hin hin2 him hf1 hf3 hp hq
      replace hi0 := eq_true hi0; replace hlt := eq_true hlt
      by_cases r1 : f1 = f3
      · have r2 : q = f3 := by have := HQ.out; omega
        have v4 : (f1 == f3) = true := beq_iff_eq.mpr r1
        have v5 : (q != f3) = false := bne_eq_false_iff_eq.mpr r2
        clear r1 r2
        go_upto_region 15 with (fail)
        first | (go_region_held3 (fun w' => Up wr w' ∧ w'.cell? ⟨(xd.add (i.toNat * 5)).block, (xd.add (i.toNat * 5)).off + 1, none⟩ = some (.int .i64 p) ∧ w'.cell? ⟨(ad.add (i.toNat * 5)).block, (ad.add (i.toNat * 5)).off + 1, none⟩ = some (.int .i64 f1) ∧ w'.cell? ⟨(yd.add (i.toNat * 5)).block, (yd.add (i.toNat * 5)).off + 1, none⟩ = some (.int .i64 q) ∧ w'.cell? ⟨(ad.add (i.toNat * 5)).block, (ad.add (i.toNat * 5)).off + 3, none⟩ = some (.int .i64 f3)) (first | (have hU_ := (Up.refl wr).drew; exact ⟨hU_, X1.out _ hU_, A1.out _ hU_, Y1.out _ hU_, A3.out _ hU_⟩) | (have hU_ : Up wr _ := (by assumption); exact ⟨hU_, X1.out _ hU_, A1.out _ hU_, Y1.out _ hU_, A3.out _ hU_⟩)) (fail)) | fail
        all_goals
          have HZ := Aside0.mk ((Up.refl wr).drew)
          generalize wr.drew = W3 at HZ ⊢
          go_wp2
          go_roundg (gk - 1)
          case measure => have := HL.out; have := HI.out; have := HG.out; omega
          case rel => exact ⟨i + 1, (by first | rfl | (simp; done) | (have := HL.out; have := HI.out; have := HP.out.1; congr 1; unfold wrap64; omega)), by have := HI.out; omega, by have := HL.out; have := HI.out; have := HG.out; omega, ⟨Up.step HB.out HZ.out⟩⟩
      · have v4 : (f1 == f3) = false := beq_eq_false_iff_ne.mpr r1
        clear r1
        go_upto_region 15 with (fail)
        have hU := (Up.refl wr).drew
        refine wp_region_held_drew (S := (fun w' => Up wr w' ∧ w'.cell? ⟨(xd.add (i.toNat * 5)).block, (xd.add (i.toNat * 5)).off + 1, none⟩ = some (.int .i64 p) ∧ w'.cell? ⟨(ad.add (i.toNat * 5)).block, (ad.add (i.toNat * 5)).off + 1, none⟩ = some (.int .i64 f1) ∧ w'.cell? ⟨(yd.add (i.toNat * 5)).block, (yd.add (i.toNat * 5)).off + 1, none⟩ = some (.int .i64 q) ∧ w'.cell? ⟨(ad.add (i.toNat * 5)).block, (ad.add (i.toNat * 5)).off + 3, none⟩ = some (.int .i64 f3))) (by kernel_rfl) (⟨hU, X1.out _ hU, A1.out _ hU, Y1.out _ hU, A3.out _ hU⟩) (fun hHeld => ?_)
        clear hU
        (refine take_on 0 96 (v := ?_) rfl rfl (by kernel_rfl) (by kernel_rfl) (by kernel_rfl) (fun _ _ _ h => h) (by kernel_rfl) ?_ hHeld ?_; (rotate_left; (intro w hSw; (try dsimp only at hSw); go_simp; (try with_reducible rfl))); (try simp only [Act.put, List.setIfInBounds_toArray, List.set_cons_zero, List.set_cons_succ])); (refine take_on 1 97 (v := ?_) rfl rfl (by kernel_rfl) (by kernel_rfl) (by kernel_rfl) (fun _ _ _ h => h) (by kernel_rfl) ?_ hHeld ?_; (rotate_left; (intro w hSw; (try dsimp only at hSw); go_simp; (try with_reducible rfl))); (try simp only [Act.put, List.setIfInBounds_toArray, List.set_cons_zero, List.set_cons_succ])); (refine take_on 2 98 (v := ?_) rfl rfl (by kernel_rfl) (by kernel_rfl) (by kernel_rfl) (fun _ _ _ h => h) (by kernel_rfl) ?_ hHeld ?_; (rotate_left; (intro w hSw; (try dsimp only at hSw); go_simp; (try with_reducible rfl))); (try simp only [Act.put, List.setIfInBounds_toArray, List.set_cons_zero, List.set_cons_succ])); (refine take_on 3 99 (v := ?_) rfl rfl (by kernel_rfl) (by kernel_rfl) (by kernel_rfl) (fun _ _ _ h => h) (by kernel_rfl) ?_ hHeld ?_; (rotate_left; (intro w hSw; (try dsimp only at hSw); go_simp; (try with_reducible rfl))); (try simp only [Act.put, List.setIfInBounds_toArray, List.set_cons_zero, List.set_cons_succ])); (refine take_on 4 100 (v := ?_) rfl rfl (by kernel_rfl) (by kernel_rfl) (by kernel_rfl) (fun _ _ _ h => h) (by kernel_rfl) ?_ hHeld ?_; (rotate_left; (intro w hSw; (try dsimp only at hSw); go_simp; (try with_reducible rfl))); (try simp only [Act.put, List.setIfInBounds_toArray, List.set_cons_zero, List.set_cons_succ])); (refine take_on 5 101 (v := ?_) rfl rfl (by kernel_rfl) (by kernel_rfl) (by kernel_rfl) (fun _ _ _ h => h) (by kernel_rfl) ?_ hHeld ?_; (rotate_left; (intro w hSw; (try dsimp only at hSw); go_simp; (try with_reducible rfl))); (try simp only [Act.put, List.setIfInBounds_toArray, List.set_cons_zero, List.set_cons_succ])); (refine take_on 6 102 (v := ?_) rfl rfl (by kernel_rfl) (by kernel_rfl) (by kernel_rfl) (fun _ _ _ h => h) (by kernel_rfl) ?_ hHeld ?_; (rotate_left; (intro w hSw; (try dsimp only at hSw); go_simp; (try with_reducible rfl))); (try simp only [Act.put, List.setIfInBounds_toArray, List.set_cons_zero, List.set_cons_succ])); (refine take_on 7 103 (v := ?_) rfl rfl (by kernel_rfl) (by kernel_rfl) (by kernel_rfl) (fun _ _ _ h => h) (by kernel_rfl) ?_ hHeld ?_; (rotate_left; (intro w hSw; (try dsimp only at hSw); go_simp; (try with_reducible rfl))); (try simp only [Act.put, List.setIfInBounds_toArray, List.set_cons_zero, List.set_cons_succ])); (refine take_on 8 104 (v := ?_) rfl rfl (by kernel_rfl) (by kernel_rfl) (by kernel_rfl) (fun _ _ _ h => h) (by kernel_rfl) ?_ hHeld ?_; (rotate_left; (intro w hSw; (try dsimp only at hSw); go_simp; (try with_reducible rfl))); (try simp only [Act.put, List.setIfInBounds_toArray, List.set_cons_zero, List.set_cons_succ])); (refine take_on 9 105 (v := ?_) rfl rfl (by kernel_rfl) (by kernel_rfl) (by kernel_rfl) (fun _ _ _ h => h) (by kernel_rfl) ?_ hHeld ?_; (rotate_left; (intro w hSw; (try dsimp only at hSw); go_simp; (try with_reducible rfl))); (try simp only [Act.put, List.setIfInBounds_toArray, List.set_cons_zero, List.set_cons_succ])); (refine take_on 10 106 (v := ?_) rfl rfl (by kernel_rfl) (by kernel_rfl) (by kernel_rfl) (fun _ _ _ h => h) (by kernel_rfl) ?_ hHeld ?_; (rotate_left; (intro w hSw; (try dsimp only at hSw); go_simp; (try with_reducible rfl))); (try simp only [Act.put, List.setIfInBounds_toArray, List.set_cons_zero, List.set_cons_succ])); (refine take_on 11 107 (v := ?_) rfl rfl (by kernel_rfl) (by kernel_rfl) (by kernel_rfl) (fun _ _ _ h => h) (by kernel_rfl) ?_ hHeld ?_; (rotate_left; (intro w hSw; (try dsimp only at hSw); go_simp; (try with_reducible rfl))); (try simp only [Act.put, List.setIfInBounds_toArray, List.set_cons_zero, List.set_cons_succ])); (refine take_on 12 108 (v := ?_) rfl rfl (by kernel_rfl) (by kernel_rfl) (by kernel_rfl) (fun _ _ _ h => h) (by kernel_rfl) ?_ hHeld ?_; (rotate_left; (intro w hSw; (try dsimp only at hSw); go_simp; (try with_reducible rfl))); (try simp only [Act.put, List.setIfInBounds_toArray, List.set_cons_zero, List.set_cons_succ])); (refine take_on 13 109 (v := ?_) rfl rfl (by kernel_rfl) (by kernel_rfl) (by kernel_rfl) (fun _ _ _ h => h) (by kernel_rfl) ?_ hHeld ?_; (rotate_left; (intro w hSw; (try dsimp only at hSw); go_simp; (try with_reducible rfl))); (try simp only [Act.put, List.setIfInBounds_toArray, List.set_cons_zero, List.set_cons_succ])); (refine take_on 14 110 (v := ?_) rfl rfl (by kernel_rfl) (by kernel_rfl) (by kernel_rfl) (fun _ _ _ h => h) (by kernel_rfl) ?_ hHeld ?_; (rotate_left; (intro w hSw; (try dsimp only at hSw); go_simp; (try with_reducible rfl))); (try simp only [Act.put, List.setIfInBounds_toArray, List.set_cons_zero, List.set_cons_succ])); (refine take_on 15 111 (v := ?_) rfl rfl (by kernel_rfl) (by kernel_rfl) (by kernel_rfl) (fun _ _ _ h => h) (by kernel_rfl) ?_ hHeld ?_; (rotate_left; (intro w hSw; (try dsimp only at hSw); go_simp; (try with_reducible rfl))); (try simp only [Act.put, List.setIfInBounds_toArray, List.set_cons_zero, List.set_cons_succ])); (refine take_on 16 112 (v := ?_) rfl rfl (by kernel_rfl) (by kernel_rfl) (by kernel_rfl) (fun _ _ _ h => h) (by kernel_rfl) ?_ hHeld ?_; (rotate_left; (intro w hSw; (try dsimp only at hSw); go_simp; (try with_reducible rfl))); (try simp only [Act.put, List.setIfInBounds_toArray, List.set_cons_zero, List.set_cons_succ])); (refine take_on 17 113 (v := ?_) rfl rfl (by kernel_rfl) (by kernel_rfl) (by kernel_rfl) (fun _ _ _ h => h) (by kernel_rfl) ?_ hHeld ?_; (rotate_left; (intro w hSw; (try dsimp only at hSw); go_simp; (try with_reducible rfl))); (try simp only [Act.put, List.setIfInBounds_toArray, List.set_cons_zero, List.set_cons_succ])); (refine take_on 18 114 (v := ?_) rfl rfl (by kernel_rfl) (by kernel_rfl) (by kernel_rfl) (fun _ _ _ h => h) (by kernel_rfl) ?_ hHeld ?_; (rotate_left; (intro w hSw; (try dsimp only at hSw); go_simp; (try with_reducible rfl))); (try simp only [Act.put, List.setIfInBounds_toArray, List.set_cons_zero, List.set_cons_succ])); (refine take_on 19 115 (v := ?_) rfl rfl (by kernel_rfl) (by kernel_rfl) (by kernel_rfl) (fun _ _ _ h => h) (by kernel_rfl) ?_ hHeld ?_; (rotate_left; (intro w hSw; (try dsimp only at hSw); go_simp; (try with_reducible rfl))); (try simp only [Act.put, List.setIfInBounds_toArray, List.set_cons_zero, List.set_cons_succ])); (refine take_on 20 116 (v := ?_) rfl rfl (by kernel_rfl) (by kernel_rfl) (by kernel_rfl) (fun _ _ _ h => h) (by kernel_rfl) ?_ hHeld ?_; (rotate_left; (intro w hSw; (try dsimp only at hSw); go_simp; (try with_reducible rfl))); (try simp only [Act.put, List.setIfInBounds_toArray, List.set_cons_zero, List.set_cons_succ])); (refine take_on 21 117 (v := ?_) rfl rfl (by kernel_rfl) (by kernel_rfl) (by kernel_rfl) (fun _ _ _ h => h) (by kernel_rfl) ?_ hHeld ?_; (rotate_left; (intro w hSw; (try dsimp only at hSw); go_simp; (try with_reducible rfl))); (try simp only [Act.put, List.setIfInBounds_toArray, List.set_cons_zero, List.set_cons_succ])); (refine take_on 22 118 (v := ?_) rfl rfl (by kernel_rfl) (by kernel_rfl) (by kernel_rfl) (fun _ _ _ h => h) (by kernel_rfl) ?_ hHeld ?_; (rotate_left; (intro w hSw; (try dsimp only at hSw); go_simp; (try with_reducible rfl))); (try simp only [Act.put, List.setIfInBounds_toArray, List.set_cons_zero, List.set_cons_succ])); (refine take_on 23 119 (v := ?_) rfl rfl (by kernel_rfl) (by kernel_rfl) (by kernel_rfl) (fun _ _ _ h => h) (by kernel_rfl) ?_ hHeld ?_; (rotate_left; (intro w hSw; (try dsimp only at hSw); go_simp; (try with_reducible rfl))); (try simp only [Act.put, List.setIfInBounds_toArray, List.set_cons_zero, List.set_cons_succ])); (refine take_on 24 120 (v := ?_) rfl rfl (by kernel_rfl) (by kernel_rfl) (by kernel_rfl) (fun _ _ _ h => h) (by kernel_rfl) ?_ hHeld ?_; (rotate_left; (intro w hSw; (try dsimp only at hSw); go_simp; (try with_reducible rfl))); (try simp only [Act.put, List.setIfInBounds_toArray, List.set_cons_zero, List.set_cons_succ])); (refine take_on 25 121 (v := ?_) rfl rfl (by kernel_rfl) (by kernel_rfl) (by kernel_rfl) (fun _ _ _ h => h) (by kernel_rfl) ?_ hHeld ?_; (rotate_left; (intro w hSw; (try dsimp only at hSw); go_simp; (try with_reducible rfl))); (try simp only [Act.put, List.setIfInBounds_toArray, List.set_cons_zero, List.set_cons_succ])); (refine take_on 26 122 (v := ?_) rfl rfl (by kernel_rfl) (by kernel_rfl) (by kernel_rfl) (fun _ _ _ h => h) (by kernel_rfl) ?_ hHeld ?_; (rotate_left; (intro w hSw; (try dsimp only at hSw); go_simp; (try with_reducible rfl))); (try simp only [Act.put, List.setIfInBounds_toArray, List.set_cons_zero, List.set_cons_succ])); (refine take_on 27 123 (v := ?_) rfl rfl (by kernel_rfl) (by kernel_rfl) (by kernel_rfl) (fun _ _ _ h => h) (by kernel_rfl) ?_ hHeld ?_; (rotate_left; (intro w hSw; (try dsimp only at hSw); go_simp; (try with_reducible rfl))); (try simp only [Act.put, List.setIfInBounds_toArray, List.set_cons_zero, List.set_cons_succ])); (refine take_on 28 124 (v := ?_) rfl rfl (by kernel_rfl) (by kernel_rfl) (by kernel_rfl) (fun _ _ _ h => h) (by kernel_rfl) ?_ hHeld ?_; (rotate_left; (intro w hSw; (try dsimp only at hSw); go_simp; (try with_reducible rfl))); (try simp only [Act.put, List.setIfInBounds_toArray, List.set_cons_zero, List.set_cons_succ])); (refine take_on 29 125 (v := ?_) rfl rfl (by kernel_rfl) (by kernel_rfl) (by kernel_rfl) (fun _ _ _ h => h) (by kernel_rfl) ?_ hHeld ?_; (rotate_left; (intro w hSw; (try dsimp only at hSw); go_simp; (try with_reducible rfl))); (try simp only [Act.put, List.setIfInBounds_toArray, List.set_cons_zero, List.set_cons_succ])); (refine take_on 30 126 (v := ?_) rfl rfl (by kernel_rfl) (by kernel_rfl) (by kernel_rfl) (fun _ _ _ h => h) (by kernel_rfl) ?_ hHeld ?_; (rotate_left; (intro w hSw; (try dsimp only at hSw); go_simp; (try with_reducible rfl))); (try simp only [Act.put, List.setIfInBounds_toArray, List.set_cons_zero, List.set_cons_succ])); (refine take_on 31 127 (v := ?_) rfl rfl (by kernel_rfl) (by kernel_rfl) (by kernel_rfl) (fun _ _ _ h => h) (by kernel_rfl) ?_ hHeld ?_; (rotate_left; (intro w hSw; (try dsimp only at hSw); go_simp; (try with_reducible rfl))); (try simp only [Act.put, List.setIfInBounds_toArray, List.set_cons_zero, List.set_cons_succ])); (refine take_on 32 128 (v := ?_) rfl rfl (by kernel_rfl) (by kernel_rfl) (by kernel_rfl) (fun _ _ _ h => h) (by kernel_rfl) ?_ hHeld ?_; (rotate_left; (intro w hSw; (try dsimp only at hSw); go_simp; (try with_reducible rfl))); (try simp only [Act.put, List.setIfInBounds_toArray, List.set_cons_zero, List.set_cons_succ])); (refine take_on 33 129 (v := ?_) rfl rfl (by kernel_rfl) (by kernel_rfl) (by kernel_rfl) (fun _ _ _ h => h) (by kernel_rfl) ?_ hHeld ?_; (rotate_left; (intro w hSw; (try dsimp only at hSw); go_simp; (try with_reducible rfl))); (try simp only [Act.put, List.setIfInBounds_toArray, List.set_cons_zero, List.set_cons_succ])); (refine take_on 34 130 (v := ?_) rfl rfl (by kernel_rfl) (by kernel_rfl) (by kernel_rfl) (fun _ _ _ h => h) (by kernel_rfl) ?_ hHeld ?_; (rotate_left; (intro w hSw; (try dsimp only at hSw); go_simp; (try with_reducible rfl))); (try simp only [Act.put, List.setIfInBounds_toArray, List.set_cons_zero, List.set_cons_succ])); (refine take_on 35 131 (v := ?_) rfl rfl (by kernel_rfl) (by kernel_rfl) (by kernel_rfl) (fun _ _ _ h => h) (by kernel_rfl) ?_ hHeld ?_; (rotate_left; (intro w hSw; (try dsimp only at hSw); go_simp; (try with_reducible rfl))); (try simp only [Act.put, List.setIfInBounds_toArray, List.set_cons_zero, List.set_cons_succ])); (refine take_on 36 132 (v := ?_) rfl rfl (by kernel_rfl) (by kernel_rfl) (by kernel_rfl) (fun _ _ _ h => h) (by kernel_rfl) ?_ hHeld ?_; (rotate_left; (intro w hSw; (try dsimp only at hSw); go_simp; (try with_reducible rfl))); (try simp only [Act.put, List.setIfInBounds_toArray, List.set_cons_zero, List.set_cons_succ])); (refine take_on 37 133 (v := ?_) rfl rfl (by kernel_rfl) (by kernel_rfl) (by kernel_rfl) (fun _ _ _ h => h) (by kernel_rfl) ?_ hHeld ?_; (rotate_left; (intro w hSw; (try dsimp only at hSw); go_simp; (try with_reducible rfl))); (try simp only [Act.put, List.setIfInBounds_toArray, List.set_cons_zero, List.set_cons_succ])); (refine take_on 38 134 (v := ?_) rfl rfl (by kernel_rfl) (by kernel_rfl) (by kernel_rfl) (fun _ _ _ h => h) (by kernel_rfl) ?_ hHeld ?_; (rotate_left; (intro w hSw; (try dsimp only at hSw); go_simp; (try with_reducible rfl))); (try simp only [Act.put, List.setIfInBounds_toArray, List.set_cons_zero, List.set_cons_succ])); (refine take_on 39 135 (v := ?_) rfl rfl (by kernel_rfl) (by kernel_rfl) (by kernel_rfl) (fun _ _ _ h => h) (by kernel_rfl) ?_ hHeld ?_; (rotate_left; (intro w hSw; (try dsimp only at hSw); go_simp; (try with_reducible rfl))); (try simp only [Act.put, List.setIfInBounds_toArray, List.set_cons_zero, List.set_cons_succ])); (refine take_on 40 136 (v := ?_) rfl rfl (by kernel_rfl) (by kernel_rfl) (by kernel_rfl) (fun _ _ _ h => h) (by kernel_rfl) ?_ hHeld ?_; (rotate_left; (intro w hSw; (try dsimp only at hSw); go_simp; (try with_reducible rfl))); (try simp only [Act.put, List.setIfInBounds_toArray, List.set_cons_zero, List.set_cons_succ])); (refine take_on 41 137 (v := ?_) rfl rfl (by kernel_rfl) (by kernel_rfl) (by kernel_rfl) (fun _ _ _ h => h) (by kernel_rfl) ?_ hHeld ?_; (rotate_left; (intro w hSw; (try dsimp only at hSw); go_simp; (try with_reducible rfl))); (try simp only [Act.put, List.setIfInBounds_toArray, List.set_cons_zero, List.set_cons_succ])); (refine take_on 42 138 (v := ?_) rfl rfl (by kernel_rfl) (by kernel_rfl) (by kernel_rfl) (fun _ _ _ h => h) (by kernel_rfl) ?_ hHeld ?_; (rotate_left; (intro w hSw; (try dsimp only at hSw); go_simp; (try with_reducible rfl))); (try simp only [Act.put, List.setIfInBounds_toArray, List.set_cons_zero, List.set_cons_succ])); (refine take_on 43 139 (v := ?_) rfl rfl (by kernel_rfl) (by kernel_rfl) (by kernel_rfl) (fun _ _ _ h => h) (by kernel_rfl) ?_ hHeld ?_; (rotate_left; (intro w hSw; (try dsimp only at hSw); go_simp; (try with_reducible rfl))); (try simp only [Act.put, List.setIfInBounds_toArray, List.set_cons_zero, List.set_cons_succ])); (refine take_on 44 140 (v := ?_) rfl rfl (by kernel_rfl) (by kernel_rfl) (by kernel_rfl) (fun _ _ _ h => h) (by kernel_rfl) ?_ hHeld ?_; (rotate_left; (intro w hSw; (try dsimp only at hSw); go_simp; (try with_reducible rfl))); (try simp only [Act.put, List.setIfInBounds_toArray, List.set_cons_zero, List.set_cons_succ])); (refine take_on 45 141 (v := ?_) rfl rfl (by kernel_rfl) (by kernel_rfl) (by kernel_rfl) (fun _ _ _ h => h) (by kernel_rfl) ?_ hHeld ?_; (rotate_left; (intro w hSw; (try dsimp only at hSw); go_simp; (try with_reducible rfl))); (try simp only [Act.put, List.setIfInBounds_toArray, List.set_cons_zero, List.set_cons_succ])); (refine take_on 46 142 (v := ?_) rfl rfl (by kernel_rfl) (by kernel_rfl) (by kernel_rfl) (fun _ _ _ h => h) (by kernel_rfl) ?_ hHeld ?_; (rotate_left; (intro w hSw; (try dsimp only at hSw); go_simp; (try with_reducible rfl))); (try simp only [Act.put, List.setIfInBounds_toArray, List.set_cons_zero, List.set_cons_succ])); (refine take_on 47 143 (v := ?_) rfl rfl (by kernel_rfl) (by kernel_rfl) (by kernel_rfl) (fun _ _ _ h => h) (by kernel_rfl) ?_ hHeld ?_; (rotate_left; (intro w hSw; (try dsimp only at hSw); go_simp; (try with_reducible rfl))); (try simp only [Act.put, List.setIfInBounds_toArray, List.set_cons_zero, List.set_cons_succ])); (refine take_on 48 144 (v := ?_) rfl rfl (by kernel_rfl) (by kernel_rfl) (by kernel_rfl) (fun _ _ _ h => h) (by kernel_rfl) ?_ hHeld ?_; (rotate_left; (intro w hSw; (try dsimp only at hSw); go_simp; (try with_reducible rfl))); (try simp only [Act.put, List.setIfInBounds_toArray, List.set_cons_zero, List.set_cons_succ]))
        (refine take_off 49 145 rfl rfl (by kernel_rfl) (by kernel_rfl) (by kernel_rfl) (fun _ _ _ h => h) (by kernel_rfl) hHeld ?_; (try simp only [Act.put, List.setIfInBounds_toArray, List.set_cons_zero, List.set_cons_succ])); (refine take_off 50 146 rfl rfl (by kernel_rfl) (by kernel_rfl) (by kernel_rfl) (fun _ _ _ h => h) (by kernel_rfl) hHeld ?_; (try simp only [Act.put, List.setIfInBounds_toArray, List.set_cons_zero, List.set_cons_succ])); (refine take_off 51 147 rfl rfl (by kernel_rfl) (by kernel_rfl) (by kernel_rfl) (fun _ _ _ h => h) (by kernel_rfl) hHeld ?_; (try simp only [Act.put, List.setIfInBounds_toArray, List.set_cons_zero, List.set_cons_succ])); (refine take_off 52 148 rfl rfl (by kernel_rfl) (by kernel_rfl) (by kernel_rfl) (fun _ _ _ h => h) (by kernel_rfl) hHeld ?_; (try simp only [Act.put, List.setIfInBounds_toArray, List.set_cons_zero, List.set_cons_succ])); (refine take_off 53 149 rfl rfl (by kernel_rfl) (by kernel_rfl) (by kernel_rfl) (fun _ _ _ h => h) (by kernel_rfl) hHeld ?_; (try simp only [Act.put, List.setIfInBounds_toArray, List.set_cons_zero, List.set_cons_succ])); (refine take_off 54 150 rfl rfl (by kernel_rfl) (by kernel_rfl) (by kernel_rfl) (fun _ _ _ h => h) (by kernel_rfl) hHeld ?_; (try simp only [Act.put, List.setIfInBounds_toArray, List.set_cons_zero, List.set_cons_succ])); (refine take_off 55 151 rfl rfl (by kernel_rfl) (by kernel_rfl) (by kernel_rfl) (fun _ _ _ h => h) (by kernel_rfl) hHeld ?_; (try simp only [Act.put, List.setIfInBounds_toArray, List.set_cons_zero, List.set_cons_succ])); (refine take_off 56 152 rfl rfl (by kernel_rfl) (by kernel_rfl) (by kernel_rfl) (fun _ _ _ h => h) (by kernel_rfl) hHeld ?_; (try simp only [Act.put, List.setIfInBounds_toArray, List.set_cons_zero, List.set_cons_succ])); (refine take_off 57 153 rfl rfl (by kernel_rfl) (by kernel_rfl) (by kernel_rfl) (fun _ _ _ h => h) (by kernel_rfl) hHeld ?_; (try simp only [Act.put, List.setIfInBounds_toArray, List.set_cons_zero, List.set_cons_succ])); (refine take_off 58 154 rfl rfl (by kernel_rfl) (by kernel_rfl) (by kernel_rfl) (fun _ _ _ h => h) (by kernel_rfl) hHeld ?_; (try simp only [Act.put, List.setIfInBounds_toArray, List.set_cons_zero, List.set_cons_succ])); (refine take_off 59 155 rfl rfl (by kernel_rfl) (by kernel_rfl) (by kernel_rfl) (fun _ _ _ h => h) (by kernel_rfl) hHeld ?_; (try simp only [Act.put, List.setIfInBounds_toArray, List.set_cons_zero, List.set_cons_succ]))
        (refine take_on 60 156 (v := ?_) rfl rfl (by kernel_rfl) (by kernel_rfl) (by kernel_rfl) (fun _ _ _ h => h) (by kernel_rfl) ?_ hHeld ?_; (rotate_left; (intro w hSw; (try dsimp only at hSw); go_simp; (try with_reducible rfl))); (try simp only [Act.put, List.setIfInBounds_toArray, List.set_cons_zero, List.set_cons_succ])); (refine take_on 61 157 (v := ?_) rfl rfl (by kernel_rfl) (by kernel_rfl) (by kernel_rfl) (fun _ _ _ h => h) (by kernel_rfl) ?_ hHeld ?_; (rotate_left; (intro w hSw; (try dsimp only at hSw); go_simp; (try with_reducible rfl))); (try simp only [Act.put, List.setIfInBounds_toArray, List.set_cons_zero, List.set_cons_succ]))
        refine wpAnyH_done (by kernel_rfl) ?_ _
        have HZ := Aside0.mk hHeld.1
        clear hHeld
        go_wp2
        go_roundg (gk - 1)
        case measure => have := HL.out; have := HI.out; have := HG.out; omega
        case rel => exact ⟨i + 1, (by first | rfl | (simp; done) | (have := HL.out; have := HI.out; have := HP.out.1; congr 1; unfold wrap64; omega)), by have := HI.out; omega, by have := HL.out; have := HI.out; have := HG.out; omega, ⟨Up.step HB.out HZ.out⟩⟩
    · replace hlt := decide_eq_false hlt
      have z1 := decide_eq_true HMN.out.1
      have z2 := decide_eq_true HMN.out.2
      go_wp2
      go_ret
      exact ⟨by simp, Up.step HB6.out HB.out⟩

end Go.Proofs.Ytecpojiinappcaa.H
