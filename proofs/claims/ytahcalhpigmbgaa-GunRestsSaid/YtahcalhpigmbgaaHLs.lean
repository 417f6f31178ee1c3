import Derived.Test.YtahcalhpigmbgaaHK
import Derived.Test.YtahcalhpigmbgaaHLa1
import Derived.Test.YtahcalhpigmbgaaHHd
import Derived.Test.YtahcalhpigmbgaaHEq
namespace Go.Proofs.Ytahcalhpigmbgaa.H
open Go.RowKit Go.Proofs.YtahcalhpigmbgaaW.PrintWords Go.Proofs.YtahcalhpigmbgaaW.PrintLast Go.Proofs.YtahcalhpigmbgaaW.PrintMore
set_option linter.unusedVariables false
set_option linter.unusedSimpArgs false
/-! single, GunSwitches -/
attribute [local go_sem high] eqA31
abbrev kindOne : SGunKind := ⟨1, [⟨0, 0⟩], 0, 0⟩
abbrev lone (g : SGun) : SGun := ⟨g.f0, g.f1, g.f2, 1, g.f4, g.f5, g.f6, g.f7⟩
def singleS (g : SGun) : Bool := (rightS [kindOne] [lone g] == 0) && (decide (1 ≤ g.f3) && decide (g.f3 ≤ 9999))
theorem singleRight {g h : Nat} {W : World} (x : SGun) (r : Int) (hr : rightS [kindOne] [x] = r) (hK : Kd.C kGunKind W (some ⟨g, 0, none⟩) 1 [kindOne]) (hG : Kd.C kGun W (some ⟨h, 0, none⟩) 1 [x]) :
    Calls Try.prog 12 #[.slice (some ⟨g, 0, none⟩) 1 1, .slice (some ⟨h, 0, none⟩) 1 1] W fun e w' => e = .returned (.int .i64 r) ∧ Up W w' := by
  obtain ⟨A1, C1, hR⟩ := RdGK_of hK
  exact RightR_c (some ⟨g, 0, none⟩) 1 [kindOne] A1 C1 (some ⟨h, 0, none⟩) 1 [x] W r hr hR hG
theorem blk_4 (w : World) (A B C D : Obj) : ((((w.alloc A).alloc B).alloc C).alloc D).heap[w.heap.size + 1 + 1 + 1]? = some D := by
  have := blk_new (((w.alloc A).alloc B).alloc C) D
  rwa [show (((w.alloc A).alloc B).alloc C).heap.size = w.heap.size + 1 + 1 + 1 by simp] at this
set_option maxHeartbeats 8000000 in
set_option maxRecDepth 100000 in
theorem single_c (a0 a1 a2 a3 a4 a5 a6 a7 : Int) (b : Bool) (w : World) (h : singleS ⟨a0, a1, a2, a3, a4, a5, a6, a7⟩ = b) :
    Calls Try.prog 13 #[.agg #[.int .i64 a0, .int .i64 a1, .int .i64 a2, .int .i64 a3, .int .i64 a4, .int .i64 a5, .int .i64 a6, .int .i64 a7]] w fun e w' => e = .returned (.bool b) ∧ Up w w' := by
  have hu := Try.underlying31
  have hu2 := Try.underlying39
  have hu3 := Try.underlying66
  have HB := Up.refl w
  obtain ⟨r, hr⟩ : ∃ r, rightS [kindOne] [lone ⟨a0, a1, a2, a3, a4, a5, a6, a7⟩] = r := ⟨_, rfl⟩
  have HS := Aside0.mk (show ((r == 0) && (decide (1 ≤ a3) && decide (a3 ≤ 9999))) = b by rw [← h, ← hr]; rfl)
  have HR := Aside0.mk hr
  clear h hr
  go_enter Try.func13, Try.ntmps13
  go_wp2_with fail
  (with_reducible refine (singleRight (lone ⟨a0, a1, a2, a3, a4, a5, a6, a7⟩) r HR.out (C_one_Kind kindOne (blk_alloc (blk_3 w _ _ _) _) (by decide) (C_one_Point ⟨0, 0⟩ (blk_alloc (blk_alloc (blk_2 w _ _) _) _))) (C_one_Gun (lone ⟨a0, a1, a2, a3, a4, a5, a6, a7⟩) (blk_4 w _ _ _ _))).mono ?_)
  rintro e w' ⟨rfl, hb⟩
  have hk := Up.blk hb (blk_alloc (blk_alloc (blk_alloc (blk_new w _) _) _) _)
  have q3 := (blk_cell hk 3).trans rfl
  simp only [List.getElem?_toArray, List.getElem?_cons_zero, List.getElem?_cons_succ] at q3
  have HU := Aside0.mk (show Up w w' from Up.step (by repeat (with_reducible first | exact HB | apply Up.alloc | apply Up.drewN | apply Up.drew)) hb)
  clear hb hk
  by_cases t1 : r = 0
  rotate_left
  · have HS := Aside0.mk (show false = b by have h := HS.out; rw [beq_eq_false_iff_ne.mpr t1, Bool.false_and] at h; exact h)
    have t1n := bne_iff_ne.mpr t1; replace t1 := beq_eq_false_iff_ne.mpr t1
    go_wp2; repeat (go_quiet (fail); try go_wp2)
    go_ret
    exact ⟨ret_b HS.out, HU.out⟩
  by_cases t2 : 1 ≤ a3
  rotate_left
  · have HS := Aside0.mk (show false = b by have h := HS.out; simpa [t1, t2] using h)
    have t1n := bne_eq_false_iff_eq.mpr t1; replace t1 := beq_iff_eq.mpr t1
    replace t2 := decide_eq_false t2
    go_wp2; repeat (go_quiet (fail); try go_wp2)
    go_ret
    exact ⟨ret_b HS.out, HU.out⟩
  have HS := Aside0.mk (show decide (a3 ≤ 9999) = b by have h := HS.out; simpa [t1, t2] using h)
  have t1n := bne_eq_false_iff_eq.mpr t1; replace t1 := beq_iff_eq.mpr t1
  replace t2 := decide_eq_true t2
  go_wp2; repeat (go_quiet (fail); try go_wp2)
  go_ret
  exact ⟨ret_b HS.out, HU.out⟩


end Go.Proofs.Ytahcalhpigmbgaa.H
