import Derived.Test.YtahcalhpigmbgaaHK
import Derived.Test.YtahcalhpigmbgaaHLa1
import Derived.Test.YtahcalhpigmbgaaHHd
namespace Go.Proofs.Ytahcalhpigmbgaa.H
open Go.RowKit Go.Proofs.YtahcalhpigmbgaaW.PrintWords Go.Proofs.YtahcalhpigmbgaaW.PrintLast Go.Proofs.YtahcalhpigmbgaaW.PrintMore
set_option linter.unusedVariables false
set_option linter.unusedSimpArgs false
/-! right; GunOutputs -/
def rightB (ks : List SGunKind) (l : List SGun) : Bool := fewS ks l && (rightS ks l == 0)
theorem rightB_len {ks : List SGunKind} {l : List SGun} (h : rightB ks l = true) : ks.length ≤ 90 ∧ l.length ≤ 90 ∧ fewS ks l = true ∧ rightS ks l = 0 := by
  unfold rightB at h
  rw [Bool.and_eq_true, beq_iff_eq] at h
  have h2 := h.1
  unfold fewS at h2
  simp only [Bool.and_eq_true, decide_eq_true_eq] at h2
  exact ⟨h2.1.1, h2.1.2, h.1, h.2⟩
set_option maxHeartbeats 8000000 in
theorem right_c (A0 : Option Addr) (c0 : Nat) (ks : List SGunKind) (A1 : Int → Option Addr) (C1 : Int → Nat) (B0 : Option Addr) (d0 : Nat) (l : List SGun) (b : Bool) (w : World) (h : rightB ks l = b) (hr0 : RdGK w A0 ks A1 C1) (hr1 : Kd.C kGun w B0 l.length l) :
    Calls Try.prog 22 #[.agg #[.slice A0 ks.length c0, .slice B0 l.length d0]] w fun e w' => e = .returned (.bool b) ∧ Up w w' := by
  have hu := Try.underlying25
  have HB := Up.refl w
  have HR0 := Aside0.mk hr0
  have HR1 := Aside0.mk hr1
  have HB0 := Aside0.mk h
  obtain ⟨f, hf⟩ : ∃ f, fewS ks l = f := ⟨_, rfl⟩
  obtain ⟨r, hr⟩ : ∃ r, rightS ks l = r := ⟨_, rfl⟩
  have HF := Aside0.mk hf
  have HS := Aside0.mk hr
  clear hf hr hr0 hr1 h
  go_enter Try.func22, Try.ntmps22
  go_wp2_with fail
  (with_reducible refine (few_c A0 c0 ks A1 C1 B0 d0 l f _ HF.out (HR0.out.up (HB.alloc _))).mono ?_)
  rintro e w1 ⟨rfl, hb⟩
  have hk := Up.blk hb (blk_new w _)
  have HB := Up.step (HB.alloc _) hb
  clear hb
  have q0 := (blk_cell hk 0).trans rfl
  have q1 := (blk_cell hk 1).trans rfl
  simp only [List.getElem?_toArray, List.getElem?_cons_zero, List.getElem?_cons_succ] at q0 q1
  cases f
  · have HB0 := Aside0.mk (show b = false by rw [← HB0.out, rightB, HF.out]; rfl)
    go_wp2
    go_ret
    exact ⟨ret_b HB0.out.symm, HB⟩
  · have HB0 := Aside0.mk (show (r == 0) = b by rw [← HB0.out, rightB, HF.out, HS.out]; rfl)
    go_wp2_with fail
    (with_reducible refine (RightR_c A0 c0 ks A1 C1 B0 d0 l w1 r HS.out (HR0.out.up HB) (C_up HR1.out HB)).mono ?_)
    rintro e w2 ⟨rfl, hb⟩
    have HB2 := Aside0.mk (Up.step HB hb)
    clear hb HB q0 q1 hk
    by_cases t1 : r = 0
    · have HB0 := Aside0.mk (show b = true by rw [← HB0.out, t1]; rfl)
      have t1n := bne_eq_false_iff_eq.mpr t1; replace t1 := beq_iff_eq.mpr t1
      go_wp2
      go_ret
      exact ⟨ret_b HB0.out.symm, HB2.out⟩
    · have HB0 := Aside0.mk (show b = false by rw [← HB0.out]; exact beq_eq_false_iff_ne.mpr t1)
      have t1n := bne_iff_ne.mpr t1; replace t1 := beq_eq_false_iff_ne.mpr t1
      go_wp2
      go_ret
      exact ⟨ret_b HB0.out.symm, HB2.out⟩

end Go.Proofs.Ytahcalhpigmbgaa.H
