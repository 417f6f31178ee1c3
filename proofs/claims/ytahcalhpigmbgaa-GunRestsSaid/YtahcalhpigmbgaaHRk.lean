import Derived.Test.YtahcalhpigmbgaaHK
import Derived.Test.YtahcalhpigmbgaaHGr
namespace Go.Proofs.Ytahcalhpigmbgaa.H
open Go.RowKit Go.Proofs.YtahcalhpigmbgaaW.PrintWords Go.Proofs.YtahcalhpigmbgaaW.PrintLast Go.Proofs.YtahcalhpigmbgaaW.PrintMore
set_option linter.unusedVariables false
set_option linter.unusedSimpArgs false
/-! the reference's kind: the error of a kind -/
theorem idxF_congr {p q : Int → Bool} : ∀ (d : Nat) (i : Int), (∀ j, i ≤ j → j < i + d → p j = q j) → idxF p d i = idxF q d i := by
  intro d
  induction d with
  | zero => intro i _; rfl
  | succ d ih =>
    intro i h
    simp only [idxF]
    rw [h i (by omega) (by omega), ih (i + 1) (fun j a b => h j (by omega) (by omega))]
theorem kindX_take {l : List SGunKind} {id : Int} {m : Nat} (hm : m ≤ l.length) : kindX (l.take m) id = idxF (fun j => (rd_GunKind l j).f0 == id) (m - (0 : Int).toNat) 0 := by
  unfold kindX
  rw [show (l.take m).length = m by simp; omega]
  exact idxF_congr _ _ (fun j a b => by simp only [rd_take (l := l) (m := m) a (by simpa using b)])
theorem gunX_take {l : List SGun} {id : Int} {m : Nat} (hm : m ≤ l.length) : gunX (l.take m) id = idxF (fun j => (rd_Gun l j).f0 == id) (m - (0 : Int).toNat) 0 := by
  unfold gunX
  rw [show (l.take m).length = m by simp; omega]
  exact idxF_congr _ _ (fun j a b => by simp only [rdg_take (l := l) (m := m) a (by simpa using b)])
theorem fallP_in2 {l : List SPoint} {i : Int} (h : ¬ (0 ≤ (rd_Point l i).f1 ∧ (rd_Point l i).f1 ≤ 10000)) : fallP l i = false := by simp [fallP, inB, h]
theorem in2 {n lo hi : Int} (h1 : ¬ n < lo) (h2 : ¬ hi < n) : inB n lo hi = true := by simp [inB]; omega
set_option maxHeartbeats 8000000 in
set_option maxRecDepth 100000 in
theorem kindR_c (A0 : Option Addr) (c0 : Nat) (ks : List SGunKind) (A1 : Int → Option Addr) (C1 : Int → Nat) (i : Int) (w : World) (r : Int) (h : kindE ks i = r) (hi0 : 0 ≤ i) (hi1 : i < ks.length) (hr0 : RdGK w A0 ks A1 C1) :
    Calls Try.prog 40 #[.slice A0 ks.length c0, .int .i64 i] w fun e w' => e = .returned (.int .i64 r) ∧ Up w w' := by
  have hu := Try.underlying39
  have HB := Up.refl w
  obtain ⟨ad, rfl⟩ : ∃ ad, A0 = some ad := by
    cases A0 with
    | none => have := hr0.1 rfl; omega
    | some ad => exact ⟨ad, rfl⟩
  obtain ⟨hx0, hx1, hx2, hx3⟩ := hr0.2.2.1 ad rfl
  have HR := Aside0.mk hr0
  have HS := Aside0.mk h
  have HI := Aside0.mk (And.intro hi0 hi1)
  clear hr0 h
  replace hi0 := eq_true hi0; replace hi1 := eq_true hi1
  obtain ⟨W1, hW⟩ : ∃ W, W = w.alloc (.cells #[.int .i64 (rd_GunKind ks i).f0, .slice (A1 i) (rd_GunKind ks i).f1.length (C1 i), .int .i64 (rd_GunKind ks i).f2, .int .i64 (rd_GunKind ks i).f3] 39) := ⟨_, rfl⟩
  have HW := Aside0.mk hW
  have HUW : Up w W1 := by rw [hW]; exact HB.alloc _
  have hk : W1.heap[w.heap.size]? = some (.cells #[.int .i64 (rd_GunKind ks i).f0, .slice (A1 i) (rd_GunKind ks i).f1.length (C1 i), .int .i64 (rd_GunKind ks i).f2, .int .i64 (rd_GunKind ks i).f3] 39 (0, 0)) := by rw [hW]; exact blk_new w _
  have q0 : ∀ W, Up W1 W → W.cell? ⟨w.heap.size, 0, none⟩ = some (.int .i64 (rd_GunKind ks i).f0) := fun W u => (blk_cell (Up.blk u hk) 0).trans rfl
  have q1 : ∀ W, Up W1 W → W.cell? ⟨w.heap.size, 1, none⟩ = some (.slice (A1 i) (rd_GunKind ks i).f1.length (C1 i)) := fun W u => (blk_cell (Up.blk u hk) 1).trans rfl
  clear hW hk
  have HUW := Aside0.mk HUW
  go_enter Try.func40, Try.ntmps40
  by_cases t1 : (rd_GunKind ks i).f0 < 1
  rotate_left
  by_cases t2 : 9999 < (rd_GunKind ks i).f0
  rotate_left
  by_cases t3 : (rd_GunKind ks i).f2 < 0
  rotate_left
  by_cases t4 : 1000000 < (rd_GunKind ks i).f2
  rotate_left
  by_cases t5 : (rd_GunKind ks i).f3 < 0
  rotate_left
  by_cases t6 : 1000000 < (rd_GunKind ks i).f3
  rotate_left
  · have HT := Aside0.mk (show kindBad (rd_GunKind ks i) = false by simp [kindBad, in2 t1 t2, in2 t3 t4, in2 t5 t6])
    replace t1 := decide_eq_false t1; replace t2 := decide_eq_false t2; replace t3 := decide_eq_false t3; replace t4 := decide_eq_false t4; replace t5 := decide_eq_false t5; replace t6 := decide_eq_false t6
    go_wp2
    rw [← HW.out]
    have HX := Aside0.mk (kindX_take (l := ks) (id := (rd_GunKind ks i).f0) (m := i.toNat) (by have := HI.out; omega))
    have HB1 := Up.refl W1
    clear HB
    go_loopg [6] (i.toNat) (fun gk v6 w' => ∃ j : Int, v6 = .int .i64 j ∧ 0 ≤ j ∧ i.toNat - j.toNat ≤ gk ∧ Aside0 (idxF (fun j => (rd_GunKind ks j).f0 == (rd_GunKind ks i).f0) (i.toNat - j.toNat) j = kindX (ks.take i.toNat) (rd_GunKind ks i).f0) ∧ Up W1 w')
    case atStart => exact ⟨0, rfl, by omega, by omega, ⟨HX.out.symm⟩, HB1⟩
    case round =>
      clear HB1 HX
      obtain ⟨j, rfl, hj, hg, HX, HB1⟩ := hrel
      have HJ := Aside0.mk hj
      have HB : Up w wr := Up.step HUW.out HB1
      by_cases hlt : j < i
      · have HL := Aside0.mk hlt
        have HX := Aside0.mk ((idxF_step (p := fun j => (rd_GunKind ks j).f0 == (rd_GunKind ks i).f0) (n := i.toNat) hj (by omega)).symm.trans HX.out)
        have hln : j < ks.length := by have := HI.out; omega
        have hlt2 := decide_eq_true hlt
        replace hj := eq_true hj; replace hlt := eq_true hlt; replace hln := eq_true hln
        by_cases t7 : (rd_GunKind ks j).f0 = (rd_GunKind ks i).f0
        · have HO := Aside0.mk (show kindE ks i = 7 by have h := HX.out; rw [if_pos (by simpa using t7)] at h; have := HJ.out; simp [kindE, HT.out, ← h]; omega)
          have HS := Aside0.mk (HO.out.symm.trans HS.out)
          have t7n := bne_eq_false_iff_eq.mpr t7; replace t7 := beq_iff_eq.mpr t7
          go_wp2; go_quiet (fail); go_wp2
          go_ret
          exact ⟨ret_i HS.out, (by repeat (with_reducible first | exact HB | apply Up.alloc | apply Up.drewN | apply Up.drew))⟩
        · have HX := Aside0.mk ((if_neg (by simpa using t7)).symm.trans HX.out)
          have t7n := bne_iff_ne.mpr t7; replace t7 := beq_eq_false_iff_ne.mpr t7
          go_wp2; go_quiet (fail); go_wp2
          go_roundg (gk - 1)
          case measure => have := HL.out; have := HJ.out; omega
          case rel => exact ⟨j + 1, (by first | rfl | (simp; done) | (have := HL.out; have := HI.out; have := HJ.out; have := HR.out.2.1; congr 1; unfold wrap64; omega)), by have := HJ.out; omega, by have := HL.out; have := HJ.out; omega, HX, (by repeat (with_reducible first | exact HB1 | apply Up.alloc | apply Up.drewN | apply Up.drew))⟩
      · have hx : kindX (ks.take i.toNat) (rd_GunKind ks i).f0 = -1 := HX.out.symm.trans (idxF_end (by omega))
        have HS := Aside0.mk (show (if fallB (rd_GunKind ks i).f1 = true then 0 else 1) = r by have h := HS.out; rw [kindE, HT.out, hx] at h; simpa using h)
        clear hx HX
        replace hlt := decide_eq_false hlt
        cases hp : ptsB (rd_GunKind ks i).f1
        · have HE := Aside0.mk (show atE (rd_GunKind ks i).f1 0 = (0, 1) by simp [atE, hp])
          have HS := Aside0.mk (show 1 = r by have h := HS.out; simpa [fallB, hp] using h)
          clear hp
          go_wp2_with fail
          (with_reducible refine (AtR_c _ _ _ _ _ _ _ HE.out (C_up (HR.out.nest HI.out.1 HI.out.2) HB)).mono ?_)
          rintro e w2 ⟨rfl, hb2⟩
          have HB2 := HB.step hb2
          go_wp2
          go_ret
          exact ⟨ret_i HS.out, HB2⟩
        · have HE := Aside0.mk (show atE (rd_GunKind ks i).f1 0 = (atV (rd_GunKind ks i).f1 0, 0) by simp [atE, hp])
          have HS := Aside0.mk (show (if allF (fallP (rd_GunKind ks i).f1) ((rd_GunKind ks i).f1.length - (0 : Int).toNat) 0 = true then 0 else 1) = r by have h := HS.out; simpa [fallB, hp] using h)
          have HP := Aside0.mk (pts_at hp)
          have hC := HR.out.nest HI.out.1 HI.out.2
          obtain ⟨ad2, hA⟩ : ∃ ad, A1 i = some ad := by obtain ⟨ad, e, _⟩ := at_Point hC 0 (by omega) (by have := HP.out.1; omega); exact ⟨ad, e⟩
          rw [hA] at hC
          have HC := Aside0.mk hC
          obtain ⟨hy0, hy1⟩ := rx_Point hC
          clear hp hC
          go_wp2_with fail
          (with_reducible refine (AtR_c _ _ _ _ _ _ _ HE.out (C_up HC.out HB)).mono ?_)
          rintro e w2 ⟨rfl, hb2⟩
          have HB2 := HB1.step hb2
          go_wp2
          clear HB1 HB hb2 HJ hj hg
          go_loopg [9] (64) (fun gk v9 w' => ∃ j : Int, v9 = .int .i64 j ∧ 0 ≤ j ∧ (rd_GunKind ks i).f1.length - j.toNat ≤ gk ∧ Aside0 ((if allF (fallP (rd_GunKind ks i).f1) ((rd_GunKind ks i).f1.length - j.toNat) j = true then 0 else 1) = r) ∧ Up W1 w')
          case atStart => exact ⟨0, rfl, by omega, by have := HP.out.2.1; omega, HS, HB2⟩
          case round =>
            clear HB2 HS
            obtain ⟨j, rfl, hj, hg, HS, HB1⟩ := hrel
            have HJ := Aside0.mk hj
            have HB : Up w wr := Up.step HUW.out HB1
            by_cases hlt : j < (rd_GunKind ks i).f1.length
            · have HL := Aside0.mk hlt
              have HS := Aside0.mk (show (if (fallP (rd_GunKind ks i).f1 j && allF (fallP (rd_GunKind ks i).f1) ((rd_GunKind ks i).f1.length - (j + 1).toNat) (j + 1)) = true then 0 else 1) = r by have h := HS.out; rwa [allF_step hj hlt] at h)
              have hlt2 := decide_eq_true hlt
              replace hj := eq_true hj; replace hlt := eq_true hlt
              by_cases u1 : (rd_Point (rd_GunKind ks i).f1 j).f1 < 0
              rotate_left
              by_cases u2 : 10000 < (rd_Point (rd_GunKind ks i).f1 j).f1
              rotate_left
              by_cases u3 : 0 < j
              · obtain ⟨m, hm⟩ : ∃ m : Int, j - 1 = m := ⟨_, rfl⟩
                have hm1 : wrap64 (j - 1) = m := by have := HJ.out; have := HL.out; have := HP.out.2.1; unfold wrap64; omega
                have hm2 : IntKind.i64.wrap (j - 1) = m := (i64_w _).trans hm1
                have p1 : 0 ≤ m := by omega
                have p2 : m < (rd_GunKind ks i).f1.length := by have := HL.out; omega
                replace p1 := eq_true p1; replace p2 := eq_true p2
                by_cases u4 : (rd_Point (rd_GunKind ks i).f1 m).f1 < (rd_Point (rd_GunKind ks i).f1 j).f1
                · have HS := Aside0.mk (show 1 = r by have h := HS.out; rw [fallP_s (in2 u1 u2) hm u3, decide_eq_false (by omega)] at h; simpa using h)
                  clear hm
                  replace u1 := decide_eq_false u1; replace u2 := decide_eq_false u2
                  replace u3 := decide_eq_true u3; replace u4 := decide_eq_true u4
                  go_wp2; go_quiet (fail); go_wp2
                  go_ret
                  exact ⟨ret_i HS.out, (by repeat (with_reducible first | exact HB | apply Up.alloc | apply Up.drewN | apply Up.drew))⟩
                · have HS := Aside0.mk (show (if allF (fallP (rd_GunKind ks i).f1) ((rd_GunKind ks i).f1.length - (j + 1).toNat) (j + 1) = true then 0 else 1) = r by have h := HS.out; rw [fallP_s (in2 u1 u2) hm u3, decide_eq_true (by omega)] at h; simpa using h)
                  clear hm
                  replace u1 := decide_eq_false u1; replace u2 := decide_eq_false u2; replace u4 := decide_eq_false u4
                  replace u3 := decide_eq_true u3
                  go_wp2; go_quiet (fail); go_wp2
                  go_roundg (gk - 1)
                  case measure => have := HL.out; have := HJ.out; omega
                  case rel => exact ⟨j + 1, (by first | rfl | (simp; done) | (have := HL.out; have := HJ.out; have := HP.out.2.1; congr 1; unfold wrap64; omega)), by have := HJ.out; omega, by have := HL.out; have := HJ.out; omega, HS, (by repeat (with_reducible first | exact HB1 | apply Up.alloc | apply Up.drewN | apply Up.drew))⟩
              · have HS := Aside0.mk (show (if allF (fallP (rd_GunKind ks i).f1) ((rd_GunKind ks i).f1.length - (j + 1).toNat) (j + 1) = true then 0 else 1) = r by have h := HS.out; rw [fallP_z (in2 u1 u2) u3] at h; simpa using h)
                replace u1 := decide_eq_false u1; replace u2 := decide_eq_false u2; replace u3 := decide_eq_false u3
                go_wp2; go_quiet (fail); go_wp2
                go_roundg (gk - 1)
                case measure => have := HL.out; have := HJ.out; omega
                case rel => exact ⟨j + 1, (by first | rfl | (simp; done) | (have := HL.out; have := HJ.out; have := HP.out.2.1; congr 1; unfold wrap64; omega)), by have := HJ.out; omega, by have := HL.out; have := HJ.out; omega, HS, (by repeat (with_reducible first | exact HB1 | apply Up.alloc | apply Up.drewN | apply Up.drew))⟩
              all_goals
                have HS := Aside0.mk (show 1 = r by have h := HS.out; rw [fallP_in2 (by omega)] at h; simpa using h)
                (first | replace u1 := decide_eq_false u1 | replace u1 := decide_eq_true u1 | skip); (first | replace u2 := decide_eq_false u2 | replace u2 := decide_eq_true u2 | skip)
                go_wp2; go_quiet (fail); go_wp2
                go_ret
                exact ⟨ret_i HS.out, (by repeat (with_reducible first | exact HB | apply Up.alloc | apply Up.drewN | apply Up.drew))⟩
            · have HS := Aside0.mk (show 0 = r by have h := HS.out; rw [allF_end (by omega : ((rd_GunKind ks i).f1.length : Int) ≤ j)] at h; simpa using h)
              replace hlt := decide_eq_false hlt
              go_wp2
              go_ret
              exact ⟨ret_i HS.out, HB⟩
  all_goals
    have HO := Aside0.mk (show kindE ks i = 2 by simp [kindE, kindBad, inB]; omega)
    have HS := Aside0.mk (HO.out.symm.trans HS.out)
    (first | replace t1 := decide_eq_false t1 | replace t1 := decide_eq_true t1 | skip); (first | replace t2 := decide_eq_false t2 | replace t2 := decide_eq_true t2 | skip); (first | replace t3 := decide_eq_false t3 | replace t3 := decide_eq_true t3 | skip); (first | replace t4 := decide_eq_false t4 | replace t4 := decide_eq_true t4 | skip); (first | replace t5 := decide_eq_false t5 | replace t5 := decide_eq_true t5 | skip); (first | replace t6 := decide_eq_false t6 | replace t6 := decide_eq_true t6 | skip)
    go_wp2
    go_ret
    exact ⟨ret_i HS.out, (by repeat (with_reducible first | exact HB | apply Up.alloc | apply Up.drewN | apply Up.drew))⟩

end Go.Proofs.Ytahcalhpigmbgaa.H
