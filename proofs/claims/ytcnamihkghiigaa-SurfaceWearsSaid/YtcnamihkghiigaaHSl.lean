import Derived.Test.YtcnamihkghiigaaHK
import Derived.Test.YtcnamihkghiigaaHSu
namespace Go.Proofs.Ytcnamihkghiigaa.H
open Go.RowKit Go.Proofs.YtcnamihkghiigaaW.PrintWords Go.Proofs.YtcnamihkghiigaaW.PrintLast Go.Proofs.YtcnamihkghiigaaW.PrintMore
set_option linter.unusedVariables false
set_option linter.unusedSimpArgs false
/-! the closures of Worst -/
def cmpS (t : Int) (x y : SSurface) : Int := wrap64 (qualS x t - qualS y t)
set_option maxHeartbeats 8000000 in
theorem Worst1_c (B1 B2 : Nat) (t least a0 a1 a2 : Int) (w : World) (h1 : w.cell? ⟨B1, 0, none⟩ = some (.int .i64 t)) (h2 : w.cell? ⟨B2, 0, none⟩ = some (.int .i64 least)) :
    Calls Try.prog 29 #[.agg #[.int .i64 a0, .int .i64 a1, .int .i64 a2], .pointer (some ⟨B1, 0, none⟩), .pointer (some ⟨B2, 0, none⟩)] w fun e w' => e = .returned (.bool (decide (least ≤ qualS ⟨a0, a1, a2⟩ t))) ∧ Up w w' := by
  have hu := Try.underlying32
  have HBW := Aside0.mk ((Up.refl w).alloc (.cells #[.int .i64 a0, .int .i64 a1, .int .i64 a2] 32))
  obtain ⟨q, hq⟩ : ∃ q, qualS ⟨a0, a1, a2⟩ t = q := ⟨_, rfl⟩
  rw [hq]
  have HQ := Aside0.mk hq
  have hw1 := (HBW.out.cell (World.block_lt_of_cell? w _ h1)).trans h1
  have hw2 := (HBW.out.cell (World.block_lt_of_cell? w _ h2)).trans h2
  have hk := blk_new w (.cells #[.int .i64 a0, .int .i64 a1, .int .i64 a2] 32)
  have k0 := (blk_cell hk 0).trans rfl
  have k1 := (blk_cell hk 1).trans rfl
  have k2 := (blk_cell hk 2).trans rfl
  simp only [List.getElem?_toArray, List.getElem?_cons_zero, List.getElem?_cons_succ] at k0 k1 k2
  clear hq h1 h2 hk
  go_enter Try.func29, Try.ntmps29
  go_upto_region 1 with (fail)
  generalize w.alloc (.cells #[.int .i64 a0, .int .i64 a1, .int .i64 a2] 32) = w1 at hw1 hw2 k0 k1 k2 HBW ⊢
  generalize w.heap.size = g at k0 k1 k2 ⊢
  have C0 := Aside0.mk (fun W (u : Up w1 W) => (u.cell (World.block_lt_of_cell? w1 _ k0)).trans k0)
  have C1 := Aside0.mk (fun W (u : Up w1 W) => (u.cell (World.block_lt_of_cell? w1 _ k1)).trans k1)
  have C2 := Aside0.mk (fun W (u : Up w1 W) => (u.cell (World.block_lt_of_cell? w1 _ k2)).trans k2)
  have D1 := Aside0.mk (fun W (u : Up w1 W) => (u.cell (World.block_lt_of_cell? w1 _ hw1)).trans hw1)
  have D2 := Aside0.mk (fun W (u : Up w1 W) => (u.cell (World.block_lt_of_cell? w1 _ hw2)).trans hw2)
  clear k0 k1 k2 hw1 hw2
  first | (go_region_held3 (fun w' => Up w1 w' ∧ w'.cell? ⟨g, 0, none⟩ = some (.int .i64 a0) ∧ w'.cell? ⟨g, 1, none⟩ = some (.int .i64 a1) ∧ w'.cell? ⟨g, 2, none⟩ = some (.int .i64 a2) ∧ w'.cell? ⟨B1, 0, none⟩ = some (.int .i64 t) ∧ w'.cell? ⟨B2, 0, none⟩ = some (.int .i64 least)) (first | (have hU_ := (Up.refl w1).drew; exact ⟨hU_, C0.out _ hU_, C1.out _ hU_, C2.out _ hU_, D1.out _ hU_, D2.out _ hU_⟩) | (have hU_ : Up w1 _ := (by assumption); exact ⟨hU_, C0.out _ hU_, C1.out _ hU_, C2.out _ hU_, D1.out _ hU_, D2.out _ hU_⟩)) (first | (go_at_call 19; (refine (Quality_c a0 a1 a2 t _ q HQ.out).mono ?_); rintro e w' ⟨rfl, hb⟩; have hU := Up.step (w := w1) (by first | assumption | exact (Up.refl w1).drew) hb; clear hb))) | fail
  all_goals
    have HZ := Aside0.mk (show Up w1 _ by assumption)
    go_wp2
    go_ret
    exact ⟨rfl, Up.step HBW.out HZ.out⟩
set_option maxHeartbeats 8000000 in
theorem Worst2_c (B1 : Nat) (t a0 a1 a2 b0 b1 b2 : Int) (w : World) (h1 : w.cell? ⟨B1, 0, none⟩ = some (.int .i64 t)) :
    Calls Try.prog 31 #[.agg #[.int .i64 a0, .int .i64 a1, .int .i64 a2], .agg #[.int .i64 b0, .int .i64 b1, .int .i64 b2], .pointer (some ⟨B1, 0, none⟩)] w fun e w' => e = .returned (.int .i64 (cmpS t ⟨a0, a1, a2⟩ ⟨b0, b1, b2⟩)) ∧ Up w w' := by
  have hu := Try.underlying32
  have HBW := Aside0.mk (((Up.refl w).alloc (.cells #[.int .i64 a0, .int .i64 a1, .int .i64 a2] 32)).alloc (.cells #[.int .i64 b0, .int .i64 b1, .int .i64 b2] 32))
  obtain ⟨q, hq⟩ : ∃ q, qualS ⟨a0, a1, a2⟩ t = q := ⟨_, rfl⟩
  obtain ⟨r, hr⟩ : ∃ r, qualS ⟨b0, b1, b2⟩ t = r := ⟨_, rfl⟩
  have HC := Aside0.mk (show cmpS t ⟨a0, a1, a2⟩ ⟨b0, b1, b2⟩ = wrap64 (q - r) by rw [← hq, ← hr]; rfl)
  have HQ := Aside0.mk hq
  have HR := Aside0.mk hr
  have hw1 := (HBW.out.cell (World.block_lt_of_cell? w _ h1)).trans h1
  have hk := blk_alloc (blk_new w (.cells #[.int .i64 a0, .int .i64 a1, .int .i64 a2] 32)) (.cells #[.int .i64 b0, .int .i64 b1, .int .i64 b2] 32)
  have k0 := (blk_cell hk 0).trans rfl
  have k1 := (blk_cell hk 1).trans rfl
  have k2 := (blk_cell hk 2).trans rfl
  have hl := blk_2 w (.cells #[.int .i64 a0, .int .i64 a1, .int .i64 a2] 32) (.cells #[.int .i64 b0, .int .i64 b1, .int .i64 b2] 32)
  have l0 := (blk_cell hl 0).trans rfl
  have l1 := (blk_cell hl 1).trans rfl
  have l2 := (blk_cell hl 2).trans rfl
  simp only [List.getElem?_toArray, List.getElem?_cons_zero, List.getElem?_cons_succ] at k0 k1 k2 l0 l1 l2
  clear hq hr h1 hk hl
  go_enter Try.func31, Try.ntmps31
  go_upto_region 1 with (fail)
  generalize (w.alloc (.cells #[.int .i64 a0, .int .i64 a1, .int .i64 a2] 32)).alloc (.cells #[.int .i64 b0, .int .i64 b1, .int .i64 b2] 32) = w1 at hw1 k0 k1 k2 l0 l1 l2 HBW ⊢
  generalize w.heap.size + 1 = h at l0 l1 l2 ⊢
  generalize w.heap.size = g at k0 k1 k2 ⊢
  have C0 := Aside0.mk (fun W (u : Up w1 W) => (u.cell (World.block_lt_of_cell? w1 _ k0)).trans k0)
  have C1 := Aside0.mk (fun W (u : Up w1 W) => (u.cell (World.block_lt_of_cell? w1 _ k1)).trans k1)
  have C2 := Aside0.mk (fun W (u : Up w1 W) => (u.cell (World.block_lt_of_cell? w1 _ k2)).trans k2)
  have E0 := Aside0.mk (fun W (u : Up w1 W) => (u.cell (World.block_lt_of_cell? w1 _ l0)).trans l0)
  have E1 := Aside0.mk (fun W (u : Up w1 W) => (u.cell (World.block_lt_of_cell? w1 _ l1)).trans l1)
  have E2 := Aside0.mk (fun W (u : Up w1 W) => (u.cell (World.block_lt_of_cell? w1 _ l2)).trans l2)
  have D1 := Aside0.mk (fun W (u : Up w1 W) => (u.cell (World.block_lt_of_cell? w1 _ hw1)).trans hw1)
  clear k0 k1 k2 l0 l1 l2 hw1
  first | (go_region_held3 (fun w' => Up w1 w' ∧ w'.cell? ⟨g, 0, none⟩ = some (.int .i64 a0) ∧ w'.cell? ⟨g, 1, none⟩ = some (.int .i64 a1) ∧ w'.cell? ⟨g, 2, none⟩ = some (.int .i64 a2) ∧ w'.cell? ⟨h, 0, none⟩ = some (.int .i64 b0) ∧ w'.cell? ⟨h, 1, none⟩ = some (.int .i64 b1) ∧ w'.cell? ⟨h, 2, none⟩ = some (.int .i64 b2) ∧ w'.cell? ⟨B1, 0, none⟩ = some (.int .i64 t)) (first | (have hU_ := (Up.refl w1).drew; exact ⟨hU_, C0.out _ hU_, C1.out _ hU_, C2.out _ hU_, E0.out _ hU_, E1.out _ hU_, E2.out _ hU_, D1.out _ hU_⟩) | (have hU_ : Up w1 _ := (by assumption); exact ⟨hU_, C0.out _ hU_, C1.out _ hU_, C2.out _ hU_, E0.out _ hU_, E1.out _ hU_, E2.out _ hU_, D1.out _ hU_⟩)) (first | (go_at_call 19; (first | (with_reducible refine (Quality_c a0 a1 a2 t _ q HQ.out).mono ?_) | (with_reducible refine (Quality_c b0 b1 b2 t _ r HR.out).mono ?_)); rintro e w' ⟨rfl, hb⟩; have hU := Up.step (w := w1) (by first | assumption | exact (Up.refl w1).drew) hb; clear hb))) | fail
  all_goals
    have HZ := Aside0.mk (show Up w1 _ by assumption)
    go_wp2
    go_ret
    exact ⟨ret_i ((i64_w _).trans HC.out.symm), Up.step HBW.out HZ.out⟩

end Go.Proofs.Ytcnamihkghiigaa.H
