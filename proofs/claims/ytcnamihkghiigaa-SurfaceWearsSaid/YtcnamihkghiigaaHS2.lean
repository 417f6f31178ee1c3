import Derived.Test.YtcnamihkghiigaaHK
import Derived.Test.YtcnamihkghiigaaHS1
import Derived.Test.YtcnamihkghiigaaHHd
namespace Go.Proofs.Ytcnamihkghiigaa.H
open Go.RowKit Go.Proofs.YtcnamihkghiigaaW.PrintWords Go.Proofs.YtcnamihkghiigaaW.PrintLast Go.Proofs.YtcnamihkghiigaaW.PrintMore
set_option linter.unusedVariables false
set_option linter.unusedSimpArgs false
/-! SurfaceQualities -/
theorem C_one {W : World} {g e : Nat} (x : SSurface) (hb : W.heap[g]? = some (.cells #[.int .i64 x.f0, .int .i64 x.f1, .int .i64 x.f2] e (0, 0))) : Kd.C kSurface W (some ⟨g, 0, none⟩) 1 [x] :=
  C_lit (inner := [.int .i64 x.f0, .int .i64 x.f1, .int .i64 x.f2]) hb (Reps.c3 (kSurface_mk W x) (Reps.none _ _)) (by simp)
theorem oneRightR {g : Nat} {W : World} (x : SSurface) (r : Int) (hr : surR [x] = r) (hC : Kd.C kSurface W (some ⟨g, 0, none⟩) 1 [x]) : Calls Try.prog 13 #[.slice (some ⟨g, 0, none⟩) 1 1] W fun e w' => e = .returned (.int .i64 r) ∧ Up W w' := SurRightR_c (some ⟨g, 0, none⟩) 1 [x] W r hr hC
set_option maxHeartbeats 8000000 in
theorem SurfaceQualities_c (a0 a1 a2 t : Int) (w : World) :
    Calls Try.prog 6 #[.agg #[.int .i64 a0, .int .i64 a1, .int .i64 a2], .int .i64 t] w fun e w' => e = .returned (.bool true) ∧ Up w w' := by
  have hu := Try.underlying32
  obtain ⟨r, hr⟩ : ∃ r, surR [⟨a0, a1, a2⟩] = r := ⟨_, rfl⟩
  obtain ⟨q, hq⟩ : ∃ q, qualS ⟨a0, a1, a2⟩ t = q := ⟨_, rfl⟩
  have HS := Aside0.mk hr
  have HQ := Aside0.mk hq
  clear hr hq
  have HB := Up.refl w
  go_enter Try.func6, Try.ntmps6
  go_wp2_with fail
  (with_reducible refine (alive_c _).mono ?_)
  rintro e w1 ⟨rfl, hb⟩
  have K := Aside0.mk (Up.blk hb (blk_new w _))
  have HB1 := Aside0.mk (Up.step (HB.alloc _) hb)
  clear hb HB
  obtain ⟨g, hg⟩ : ∃ g, g = w.heap.size := ⟨_, rfl⟩
  rw [← hg] at K ⊢
  clear hg
  have k0 := (blk_cell K.out 0).trans rfl
  have k1 := (blk_cell K.out 1).trans rfl
  have k2 := (blk_cell K.out 2).trans rfl
  have l0 := fun ob => (blk_cell (blk_alloc K.out ob) 0).trans rfl
  have l1 := fun ob => (blk_cell (blk_alloc K.out ob) 1).trans rfl
  have l2 := fun ob => (blk_cell (blk_alloc K.out ob) 2).trans rfl
  simp only [List.getElem?_toArray, List.getElem?_cons_zero, List.getElem?_cons_succ] at k0 k1 k2 l0 l1 l2
  by_cases t1 : r = 0
  rotate_left
  · have t1n := bne_iff_ne.mpr t1; replace t1 := beq_eq_false_iff_ne.mpr t1
    go_upto_region 3 with (fail)
    have C := Aside0.mk (fun W (u : Up w1 W) => (blk_cell (Up.blk u K.out) 0).trans rfl)
    have C1 := Aside0.mk (fun W (u : Up w1 W) => (blk_cell (Up.blk u K.out) 1).trans rfl)
    have C2 := Aside0.mk (fun W (u : Up w1 W) => (blk_cell (Up.blk u K.out) 2).trans rfl)
    simp only [List.getElem?_toArray, List.getElem?_cons_zero, List.getElem?_cons_succ] at C C1 C2
    have hU := (Up.refl w1).drew
    have hU0 := fun ob => ((Up.refl w1).alloc ob).drew
    clear k0 k1 k2 l0 l1 l2
    refine wp_region_held_drew (S := fun w' => Up w1 w' ∧ w'.cell? ⟨g, 0, none⟩ = some (.int .i64 a0) ∧ w'.cell? ⟨g, 1, none⟩ = some (.int .i64 a1) ∧ w'.cell? ⟨g, 2, none⟩ = some (.int .i64 a2)) (by kernel_rfl) (⟨hU, C.out _ hU, C1.out _ hU, C2.out _ hU⟩) (fun hHeld => ?_)
    (refine take_on 0 7 (v := ?_) rfl rfl (by kernel_rfl) (by kernel_rfl) (by kernel_rfl) (fun _ _ _ h => h) (by kernel_rfl) ?_ hHeld ?_; (rotate_left; (intro w hSw; (try dsimp only at hSw); go_simp; (try with_reducible rfl))); (try simp only [Act.put, List.setIfInBounds_toArray, List.set_cons_zero, List.set_cons_succ]))
    (refine wpAnyH_ready (rs := [1]) (by kernel_rfl) (by simp) ?_; refine AllReadyH.cons rfl (fun K hK => ?_) AllReadyH.nil; go_simp; refine hK.out _ _ (⟨hU.alloc _, C.out _ (hU.alloc _), C1.out _ (hU.alloc _), C2.out _ (hU.alloc _)⟩) (fun hHeld => ?_); clear hK K; (try simp only [Act.put, List.setIfInBounds_toArray, List.set_cons_zero, List.set_cons_succ]))
    (refine wpAnyH_ready (rs := [2]) (by kernel_rfl) (by simp) ?_; refine AllReadyH.cons rfl (fun K hK => ?_) AllReadyH.nil; (go_simp; (with_reducible refine (oneRightR ⟨a0, a1, a2⟩ r HS.out (C_one _ (blk_drew (blk_new _ _)))).mono ?_); rintro e w2 ⟨rfl, hb⟩; have hU2 : Up w1 w2 := Up.step (hU0 _) hb; clear hb); refine hK.out _ _ (⟨hU2, C.out _ hU2, C1.out _ hU2, C2.out _ hU2⟩) (fun hHeld => ?_); clear hK K; (try simp only [Act.put, List.setIfInBounds_toArray, List.set_cons_zero, List.set_cons_succ]))
    (refine take_on 3 10 (v := ?_) rfl rfl (by kernel_rfl) (by kernel_rfl) (by kernel_rfl) (fun _ _ _ h => h) (by kernel_rfl) ?_ hHeld ?_; (rotate_left; (intro w hSw; (try dsimp only at hSw); go_simp; (try with_reducible rfl))); (try simp only [Act.put, List.setIfInBounds_toArray, List.set_cons_zero, List.set_cons_succ])); (refine take_on 4 11 (v := ?_) rfl rfl (by kernel_rfl) (by kernel_rfl) (by kernel_rfl) (fun _ _ _ h => h) (by kernel_rfl) ?_ hHeld ?_; (rotate_left; (intro w hSw; (try dsimp only at hSw); go_simp; (try with_reducible rfl))); (try simp only [Act.put, List.setIfInBounds_toArray, List.set_cons_zero, List.set_cons_succ]))
    (refine take_off 5 12 rfl rfl (by kernel_rfl) (by kernel_rfl) (by kernel_rfl) (fun _ _ _ h => h) (by kernel_rfl) hHeld ?_; (try simp only [Act.put, List.setIfInBounds_toArray, List.set_cons_zero, List.set_cons_succ])); (refine take_off 6 13 rfl rfl (by kernel_rfl) (by kernel_rfl) (by kernel_rfl) (fun _ _ _ h => h) (by kernel_rfl) hHeld ?_; (try simp only [Act.put, List.setIfInBounds_toArray, List.set_cons_zero, List.set_cons_succ])); (refine take_off 7 14 rfl rfl (by kernel_rfl) (by kernel_rfl) (by kernel_rfl) (fun _ _ _ h => h) (by kernel_rfl) hHeld ?_; (try simp only [Act.put, List.setIfInBounds_toArray, List.set_cons_zero, List.set_cons_succ])); (refine take_off 8 15 rfl rfl (by kernel_rfl) (by kernel_rfl) (by kernel_rfl) (fun _ _ _ h => h) (by kernel_rfl) hHeld ?_; (try simp only [Act.put, List.setIfInBounds_toArray, List.set_cons_zero, List.set_cons_succ])); (refine take_off 9 16 rfl rfl (by kernel_rfl) (by kernel_rfl) (by kernel_rfl) (fun _ _ _ h => h) (by kernel_rfl) hHeld ?_; (try simp only [Act.put, List.setIfInBounds_toArray, List.set_cons_zero, List.set_cons_succ])); (refine take_off 10 17 rfl rfl (by kernel_rfl) (by kernel_rfl) (by kernel_rfl) (fun _ _ _ h => h) (by kernel_rfl) hHeld ?_; (try simp only [Act.put, List.setIfInBounds_toArray, List.set_cons_zero, List.set_cons_succ])); (refine take_off 11 18 rfl rfl (by kernel_rfl) (by kernel_rfl) (by kernel_rfl) (fun _ _ _ h => h) (by kernel_rfl) hHeld ?_; (try simp only [Act.put, List.setIfInBounds_toArray, List.set_cons_zero, List.set_cons_succ]))
    (refine take_on 12 19 (v := ?_) rfl rfl (by kernel_rfl) (by kernel_rfl) (by kernel_rfl) (fun _ _ _ h => h) (by kernel_rfl) ?_ hHeld ?_; (rotate_left; (intro w hSw; (try dsimp only at hSw); go_simp; (try with_reducible rfl))); (try simp only [Act.put, List.setIfInBounds_toArray, List.set_cons_zero, List.set_cons_succ])); (refine take_on 13 4 (v := ?_) rfl rfl (by kernel_rfl) (by kernel_rfl) (by kernel_rfl) (fun _ _ _ h => h) (by kernel_rfl) ?_ hHeld ?_; (rotate_left; (intro w hSw; (try dsimp only at hSw); go_simp; (try with_reducible rfl))); (try simp only [Act.put, List.setIfInBounds_toArray, List.set_cons_zero, List.set_cons_succ]))
    refine wpAnyH_done (by kernel_rfl) ?_ _
    have HZ := Aside0.mk hHeld.1
    clear hHeld
    go_wp2
    go_ret
    exact ⟨rfl, Up.step HB1.out HZ.out⟩
  · have t1n := bne_eq_false_iff_eq.mpr t1; replace t1 := beq_iff_eq.mpr t1
    go_upto_region 3 with (fail)
    go_region_with (first | (go_at_call 13; (with_reducible refine (oneRightR ⟨a0, a1, a2⟩ r HS.out (C_one _ (by first | exact blk_drew (blk_new _ _) | exact blk_new _ _))).mono ?_); rintro e w2 ⟨rfl, hb⟩; have hU : Up w1 w2 := Up.step (by repeat (with_reducible first | exact (Up.refl w1) | apply Up.alloc | apply Up.drewN | apply Up.drew)) hb; clear hb; have m0 := (blk_cell (Up.blk hU K.out) 0).trans rfl; have m1 := (blk_cell (Up.blk hU K.out) 1).trans rfl; have m2 := (blk_cell (Up.blk hU K.out) 2).trans rfl; simp only [List.getElem?_toArray, List.getElem?_cons_zero, List.getElem?_cons_succ] at m0 m1 m2) | (go_at_call 19; (with_reducible refine (Quality_c a0 a1 a2 t _ q HQ.out).mono ?_); rintro e w3 ⟨rfl, hb⟩; have hU3 : Up w1 w3 := Up.step (by repeat (with_reducible first | exact hU | apply Up.alloc | apply Up.drewN | apply Up.drew)) hb; clear hb; have n0 := (blk_cell (Up.blk hU3 K.out) 0).trans rfl; have n1 := (blk_cell (Up.blk hU3 K.out) 1).trans rfl; have n2 := (blk_cell (Up.blk hU3 K.out) 2).trans rfl; simp only [List.getElem?_toArray, List.getElem?_cons_zero, List.getElem?_cons_succ] at n0 n1 n2) | (go_at_call 20; (with_reducible refine (QualityR_c a0 a1 a2 t _ q HQ.out).mono ?_); rintro e w4 ⟨rfl, hb⟩; have hU4 : Up w1 w4 := Up.step (by repeat (with_reducible first | exact hU3 | apply Up.alloc | apply Up.drewN | apply Up.drew)) hb; clear hb))
    all_goals
      go_wp2
      go_ret
      exact ⟨rfl, Up.step HB1.out (by assumption)⟩

end Go.Proofs.Ytcnamihkghiigaa.H
