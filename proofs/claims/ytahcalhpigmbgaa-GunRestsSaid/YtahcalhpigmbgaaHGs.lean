import Derived.Test.YtahcalhpigmbgaaHK
import Derived.Test.YtahcalhpigmbgaaHGw
namespace Go.Proofs.Ytahcalhpigmbgaa.H
open Go.RowKit Go.Proofs.YtahcalhpigmbgaaW.PrintWords Go.Proofs.YtahcalhpigmbgaaW.PrintLast Go.Proofs.YtahcalhpigmbgaaW.PrintMore
set_option linter.unusedVariables false
set_option linter.unusedSimpArgs false
/-! gun: Start, Stop, Fail, Repair, of the program and of the reference -/
set_option maxHeartbeats 4000000 in
theorem start_c (a0 a1 a2 a3 a4 a5 a6 a7 t r0 r1 r2 r3 r4 r5 r6 r7 e : Int) (w : World) (h : startS ⟨a0, a1, a2, a3, a4, a5, a6, a7⟩ t = (⟨r0, r1, r2, r3, r4, r5, r6, r7⟩, e)) :
    Calls Try.prog 55 #[.agg #[.int .i64 a0, .int .i64 a1, .int .i64 a2, .int .i64 a3, .int .i64 a4, .int .i64 a5, .int .i64 a6, .int .i64 a7, .int .i64 t]] w fun en w' => en = .returned (.tuple #[.agg #[.int .i64 r0, .int .i64 r1, .int .i64 r2, .int .i64 r3, .int .i64 r4, .int .i64 r5, .int .i64 r6, .int .i64 r7], .int .i64 e]) ∧ Up w w' := by
  have hu := Try.underlying31
  have hu2 := Try.underlying69
  have HB := Up.refl w
  have H := Aside0.mk h
  clear h
  go_enter Try.func55, Try.ntmps55
  by_cases t1 : a4 = 0
  rotate_left
  · have h := H.out.symm.trans (if_neg t1)
    simp only [zGun, Prod.mk.injEq, SGun.mk.injEq] at h
    obtain ⟨⟨rfl, rfl, rfl, rfl, rfl, rfl, rfl, rfl⟩, rfl⟩ := h
    have t1n := bne_iff_ne.mpr t1; replace t1 := beq_eq_false_iff_ne.mpr t1
    go_wp2
    exact bodyPost_ret (v := .tuple #[.agg #[.int .i64 0, .int .i64 0, .int .i64 0, .int .i64 0, .int .i64 0, .int .i64 0, .int .i64 0, .int .i64 0], .int .i64 10]) (by simp [results, Try.results55, go_sem]) rfl ⟨rfl, (by repeat (with_reducible first | exact HB | apply Up.alloc | apply Up.drewN | apply Up.drew))⟩
  replace H := Aside0.mk (((if_pos t1).symm.trans H.out : turnS ⟨a0, a1, a2, a3, a4, a5, a6, a7⟩ t 1 a7 = (⟨r0, r1, r2, r3, r4, r5, r6, r7⟩, e)))
  have t1n := bne_eq_false_iff_eq.mpr t1; replace t1 := beq_iff_eq.mpr t1
  go_wp2_with (go_at_call 63; (with_reducible refine (turn_c a0 a1 a2 a3 a4 a5 a6 a7 _ 1 _ r0 r1 r2 r3 r4 r5 r6 r7 _ _ H.out).mono ?_); rintro en w' ⟨rfl, hb⟩; obtain ⟨hc, hf, hz⟩ := Up.cells hb; simp at hz; have hk := Up.blk hb (blk_2 w _ _))
  exact bodyPost_ret (results_ct rfl _ _ (w.heap.size + 1) 31 #[.int .i64 r0, .int .i64 r1, .int .i64 r2, .int .i64 r3, .int .i64 r4, .int .i64 r5, .int .i64 r6, .int .i64 r7] (0, 0) _ rfl (blkput_8 hk) Try.underlying31 rfl (by kernel_rfl)) rfl ⟨rfl, (by have HU_ := (Up.step (by repeat (with_reducible first | exact HB | apply Up.alloc | apply Up.drewN | apply Up.drew)) hb : Up w w'); repeat (with_reducible first | exact HU_ | refine Up.set ?_ (by omega) | apply Up.alloc | apply Up.drewN | apply Up.drew))⟩
set_option maxHeartbeats 4000000 in
theorem stop_c (a0 a1 a2 a3 a4 a5 a6 a7 t r0 r1 r2 r3 r4 r5 r6 r7 e : Int) (w : World) (h : stopS ⟨a0, a1, a2, a3, a4, a5, a6, a7⟩ t = (⟨r0, r1, r2, r3, r4, r5, r6, r7⟩, e)) :
    Calls Try.prog 56 #[.agg #[.int .i64 a0, .int .i64 a1, .int .i64 a2, .int .i64 a3, .int .i64 a4, .int .i64 a5, .int .i64 a6, .int .i64 a7, .int .i64 t]] w fun en w' => en = .returned (.tuple #[.agg #[.int .i64 r0, .int .i64 r1, .int .i64 r2, .int .i64 r3, .int .i64 r4, .int .i64 r5, .int .i64 r6, .int .i64 r7], .int .i64 e]) ∧ Up w w' := by
  have hu := Try.underlying31
  have hu2 := Try.underlying69
  have HB := Up.refl w
  have H := Aside0.mk h
  clear h
  go_enter Try.func56, Try.ntmps56
  by_cases t1 : a4 = 1
  rotate_left
  · have h := H.out.symm.trans (if_neg t1)
    simp only [zGun, Prod.mk.injEq, SGun.mk.injEq] at h
    obtain ⟨⟨rfl, rfl, rfl, rfl, rfl, rfl, rfl, rfl⟩, rfl⟩ := h
    have t1n := bne_iff_ne.mpr t1; replace t1 := beq_eq_false_iff_ne.mpr t1
    go_wp2
    exact bodyPost_ret (v := .tuple #[.agg #[.int .i64 0, .int .i64 0, .int .i64 0, .int .i64 0, .int .i64 0, .int .i64 0, .int .i64 0, .int .i64 0], .int .i64 10]) (by simp [results, Try.results56, go_sem]) rfl ⟨rfl, (by repeat (with_reducible first | exact HB | apply Up.alloc | apply Up.drewN | apply Up.drew))⟩
  replace H := Aside0.mk (((if_pos t1).symm.trans H.out : turnS ⟨a0, a1, a2, a3, a4, a5, a6, a7⟩ t 0 a6 = (⟨r0, r1, r2, r3, r4, r5, r6, r7⟩, e)))
  have t1n := bne_eq_false_iff_eq.mpr t1; replace t1 := beq_iff_eq.mpr t1
  go_wp2_with (go_at_call 63; (with_reducible refine (turn_c a0 a1 a2 a3 a4 a5 a6 a7 _ 0 _ r0 r1 r2 r3 r4 r5 r6 r7 _ _ H.out).mono ?_); rintro en w' ⟨rfl, hb⟩; obtain ⟨hc, hf, hz⟩ := Up.cells hb; simp at hz; have hk := Up.blk hb (blk_2 w _ _))
  exact bodyPost_ret (results_ct rfl _ _ (w.heap.size + 1) 31 #[.int .i64 r0, .int .i64 r1, .int .i64 r2, .int .i64 r3, .int .i64 r4, .int .i64 r5, .int .i64 r6, .int .i64 r7] (0, 0) _ rfl (blkput_8 hk) Try.underlying31 rfl (by kernel_rfl)) rfl ⟨rfl, (by have HU_ := (Up.step (by repeat (with_reducible first | exact HB | apply Up.alloc | apply Up.drewN | apply Up.drew)) hb : Up w w'); repeat (with_reducible first | exact HU_ | refine Up.set ?_ (by omega) | apply Up.alloc | apply Up.drewN | apply Up.drew))⟩
set_option maxHeartbeats 4000000 in
theorem fail_c (a0 a1 a2 a3 a4 a5 a6 a7 t r0 r1 r2 r3 r4 r5 r6 r7 e : Int) (w : World) (h : failS ⟨a0, a1, a2, a3, a4, a5, a6, a7⟩ t = (⟨r0, r1, r2, r3, r4, r5, r6, r7⟩, e)) :
    Calls Try.prog 58 #[.agg #[.int .i64 a0, .int .i64 a1, .int .i64 a2, .int .i64 a3, .int .i64 a4, .int .i64 a5, .int .i64 a6, .int .i64 a7, .int .i64 t]] w fun en w' => en = .returned (.tuple #[.agg #[.int .i64 r0, .int .i64 r1, .int .i64 r2, .int .i64 r3, .int .i64 r4, .int .i64 r5, .int .i64 r6, .int .i64 r7], .int .i64 e]) ∧ Up w w' := by
  have hu := Try.underlying31
  have hu2 := Try.underlying69
  have HB := Up.refl w
  have H := Aside0.mk h
  clear h
  go_enter Try.func58, Try.ntmps58
  replace H := Aside0.mk (show turnS ⟨a0, a1, a2, a3, a4, a5, a6, a7⟩ t 2 0 = (⟨r0, r1, r2, r3, r4, r5, r6, r7⟩, e) from H.out)
  go_wp2_with (go_at_call 63; (with_reducible refine (turn_c a0 a1 a2 a3 a4 a5 a6 a7 _ 2 _ r0 r1 r2 r3 r4 r5 r6 r7 _ _ H.out).mono ?_); rintro en w' ⟨rfl, hb⟩; obtain ⟨hc, hf, hz⟩ := Up.cells hb; simp at hz; have hk := Up.blk hb (blk_2 w _ _))
  exact bodyPost_ret (results_ct rfl _ _ (w.heap.size + 1) 31 #[.int .i64 r0, .int .i64 r1, .int .i64 r2, .int .i64 r3, .int .i64 r4, .int .i64 r5, .int .i64 r6, .int .i64 r7] (0, 0) _ rfl (blkput_8 hk) Try.underlying31 rfl (by kernel_rfl)) rfl ⟨rfl, (by have HU_ := (Up.step (by repeat (with_reducible first | exact HB | apply Up.alloc | apply Up.drewN | apply Up.drew)) hb : Up w w'); repeat (with_reducible first | exact HU_ | refine Up.set ?_ (by omega) | apply Up.alloc | apply Up.drewN | apply Up.drew))⟩
set_option maxHeartbeats 4000000 in
theorem repair_c (a0 a1 a2 a3 a4 a5 a6 a7 t r0 r1 r2 r3 r4 r5 r6 r7 e : Int) (w : World) (h : repairS ⟨a0, a1, a2, a3, a4, a5, a6, a7⟩ t = (⟨r0, r1, r2, r3, r4, r5, r6, r7⟩, e)) :
    Calls Try.prog 57 #[.agg #[.int .i64 a0, .int .i64 a1, .int .i64 a2, .int .i64 a3, .int .i64 a4, .int .i64 a5, .int .i64 a6, .int .i64 a7, .int .i64 t]] w fun en w' => en = .returned (.tuple #[.agg #[.int .i64 r0, .int .i64 r1, .int .i64 r2, .int .i64 r3, .int .i64 r4, .int .i64 r5, .int .i64 r6, .int .i64 r7], .int .i64 e]) ∧ Up w w' := by
  have hu := Try.underlying31
  have hu2 := Try.underlying69
  have HB := Up.refl w
  have H := Aside0.mk h
  clear h
  go_enter Try.func57, Try.ntmps57
  by_cases t1 : a4 = 2
  rotate_left
  · have h := H.out.symm.trans (if_neg t1)
    simp only [zGun, Prod.mk.injEq, SGun.mk.injEq] at h
    obtain ⟨⟨rfl, rfl, rfl, rfl, rfl, rfl, rfl, rfl⟩, rfl⟩ := h
    have t1n := bne_iff_ne.mpr t1; replace t1 := beq_eq_false_iff_ne.mpr t1
    go_wp2
    exact bodyPost_ret (v := .tuple #[.agg #[.int .i64 0, .int .i64 0, .int .i64 0, .int .i64 0, .int .i64 0, .int .i64 0, .int .i64 0, .int .i64 0], .int .i64 10]) (by simp [results, Try.results57, go_sem]) rfl ⟨rfl, (by repeat (with_reducible first | exact HB | apply Up.alloc | apply Up.drewN | apply Up.drew))⟩
  replace H := Aside0.mk (((if_pos t1).symm.trans H.out : turnS ⟨a0, a1, a2, a3, a4, a5, a6, a7⟩ t 0 0 = (⟨r0, r1, r2, r3, r4, r5, r6, r7⟩, e)))
  have t1n := bne_eq_false_iff_eq.mpr t1; replace t1 := beq_iff_eq.mpr t1
  go_wp2_with (go_at_call 63; (with_reducible refine (turn_c a0 a1 a2 a3 a4 a5 a6 a7 _ 0 _ r0 r1 r2 r3 r4 r5 r6 r7 _ _ H.out).mono ?_); rintro en w' ⟨rfl, hb⟩; obtain ⟨hc, hf, hz⟩ := Up.cells hb; simp at hz; have hk := Up.blk hb (blk_2 w _ _))
  exact bodyPost_ret (results_ct rfl _ _ (w.heap.size + 1) 31 #[.int .i64 r0, .int .i64 r1, .int .i64 r2, .int .i64 r3, .int .i64 r4, .int .i64 r5, .int .i64 r6, .int .i64 r7] (0, 0) _ rfl (blkput_8 hk) Try.underlying31 rfl (by kernel_rfl)) rfl ⟨rfl, (by have HU_ := (Up.step (by repeat (with_reducible first | exact HB | apply Up.alloc | apply Up.drewN | apply Up.drew)) hb : Up w w'); repeat (with_reducible first | exact HU_ | refine Up.set ?_ (by omega) | apply Up.alloc | apply Up.drewN | apply Up.drew))⟩
set_option maxHeartbeats 4000000 in
theorem StartR_c (a0 a1 a2 a3 a4 a5 a6 a7 t r0 r1 r2 r3 r4 r5 r6 r7 e : Int) (w : World) (h : startS ⟨a0, a1, a2, a3, a4, a5, a6, a7⟩ t = (⟨r0, r1, r2, r3, r4, r5, r6, r7⟩, e)) :
    Calls Try.prog 15 #[.agg #[.int .i64 a0, .int .i64 a1, .int .i64 a2, .int .i64 a3, .int .i64 a4, .int .i64 a5, .int .i64 a6, .int .i64 a7], .int .i64 t] w fun en w' => en = .returned (.tuple #[.agg #[.int .i64 r0, .int .i64 r1, .int .i64 r2, .int .i64 r3, .int .i64 r4, .int .i64 r5, .int .i64 r6, .int .i64 r7], .int .i64 e]) ∧ Up w w' := by
  have hu := Try.underlying31
  skip
  have HB := Up.refl w
  have H := Aside0.mk h
  clear h
  go_enter Try.func15, Try.ntmps15
  by_cases t1 : a4 = 0
  rotate_left
  · have h := H.out.symm.trans (if_neg t1)
    simp only [zGun, Prod.mk.injEq, SGun.mk.injEq] at h
    obtain ⟨⟨rfl, rfl, rfl, rfl, rfl, rfl, rfl, rfl⟩, rfl⟩ := h
    have t1n := bne_iff_ne.mpr t1; replace t1 := beq_eq_false_iff_ne.mpr t1
    go_wp2
    exact bodyPost_ret (v := .tuple #[.agg #[.int .i64 0, .int .i64 0, .int .i64 0, .int .i64 0, .int .i64 0, .int .i64 0, .int .i64 0, .int .i64 0], .int .i64 10]) (by simp [results, Try.results15, go_sem]) rfl ⟨rfl, (by repeat (with_reducible first | exact HB | apply Up.alloc | apply Up.drewN | apply Up.drew))⟩
  replace H := Aside0.mk (((if_pos t1).symm.trans H.out : turnS ⟨a0, a1, a2, a3, a4, a5, a6, a7⟩ t 1 a7 = (⟨r0, r1, r2, r3, r4, r5, r6, r7⟩, e)))
  have t1n := bne_eq_false_iff_eq.mpr t1; replace t1 := beq_iff_eq.mpr t1
  go_wp2_with (go_at_call 45; (with_reducible refine (become_c a0 a1 a2 a3 a4 a5 a6 a7 _ 1 _ r0 r1 r2 r3 r4 r5 r6 r7 _ _ H.out).mono ?_); rintro en w' ⟨rfl, hb⟩; obtain ⟨hc, hf, hz⟩ := Up.cells hb; simp at hz; have hk := Up.blk hb (blk_2 w _ _))
  exact bodyPost_ret (results_ct rfl _ _ (w.heap.size + 1) 31 #[.int .i64 r0, .int .i64 r1, .int .i64 r2, .int .i64 r3, .int .i64 r4, .int .i64 r5, .int .i64 r6, .int .i64 r7] (0, 0) _ rfl (blkput_8 hk) Try.underlying31 rfl (by kernel_rfl)) rfl ⟨rfl, (by have HU_ := (Up.step (by repeat (with_reducible first | exact HB | apply Up.alloc | apply Up.drewN | apply Up.drew)) hb : Up w w'); repeat (with_reducible first | exact HU_ | refine Up.set ?_ (by omega) | apply Up.alloc | apply Up.drewN | apply Up.drew))⟩
set_option maxHeartbeats 4000000 in
theorem StopR_c (a0 a1 a2 a3 a4 a5 a6 a7 t r0 r1 r2 r3 r4 r5 r6 r7 e : Int) (w : World) (h : stopS ⟨a0, a1, a2, a3, a4, a5, a6, a7⟩ t = (⟨r0, r1, r2, r3, r4, r5, r6, r7⟩, e)) :
    Calls Try.prog 17 #[.agg #[.int .i64 a0, .int .i64 a1, .int .i64 a2, .int .i64 a3, .int .i64 a4, .int .i64 a5, .int .i64 a6, .int .i64 a7], .int .i64 t] w fun en w' => en = .returned (.tuple #[.agg #[.int .i64 r0, .int .i64 r1, .int .i64 r2, .int .i64 r3, .int .i64 r4, .int .i64 r5, .int .i64 r6, .int .i64 r7], .int .i64 e]) ∧ Up w w' := by
  have hu := Try.underlying31
  skip
  have HB := Up.refl w
  have H := Aside0.mk h
  clear h
  go_enter Try.func17, Try.ntmps17
  by_cases t1 : a4 = 1
  rotate_left
  · have h := H.out.symm.trans (if_neg t1)
    simp only [zGun, Prod.mk.injEq, SGun.mk.injEq] at h
    obtain ⟨⟨rfl, rfl, rfl, rfl, rfl, rfl, rfl, rfl⟩, rfl⟩ := h
    have t1n := bne_iff_ne.mpr t1; replace t1 := beq_eq_false_iff_ne.mpr t1
    go_wp2
    exact bodyPost_ret (v := .tuple #[.agg #[.int .i64 0, .int .i64 0, .int .i64 0, .int .i64 0, .int .i64 0, .int .i64 0, .int .i64 0, .int .i64 0], .int .i64 10]) (by simp [results, Try.results17, go_sem]) rfl ⟨rfl, (by repeat (with_reducible first | exact HB | apply Up.alloc | apply Up.drewN | apply Up.drew))⟩
  replace H := Aside0.mk (((if_pos t1).symm.trans H.out : turnS ⟨a0, a1, a2, a3, a4, a5, a6, a7⟩ t 0 a6 = (⟨r0, r1, r2, r3, r4, r5, r6, r7⟩, e)))
  have t1n := bne_eq_false_iff_eq.mpr t1; replace t1 := beq_iff_eq.mpr t1
  go_wp2_with (go_at_call 45; (with_reducible refine (become_c a0 a1 a2 a3 a4 a5 a6 a7 _ 0 _ r0 r1 r2 r3 r4 r5 r6 r7 _ _ H.out).mono ?_); rintro en w' ⟨rfl, hb⟩; obtain ⟨hc, hf, hz⟩ := Up.cells hb; simp at hz; have hk := Up.blk hb (blk_2 w _ _))
  exact bodyPost_ret (results_ct rfl _ _ (w.heap.size + 1) 31 #[.int .i64 r0, .int .i64 r1, .int .i64 r2, .int .i64 r3, .int .i64 r4, .int .i64 r5, .int .i64 r6, .int .i64 r7] (0, 0) _ rfl (blkput_8 hk) Try.underlying31 rfl (by kernel_rfl)) rfl ⟨rfl, (by have HU_ := (Up.step (by repeat (with_reducible first | exact HB | apply Up.alloc | apply Up.drewN | apply Up.drew)) hb : Up w w'); repeat (with_reducible first | exact HU_ | refine Up.set ?_ (by omega) | apply Up.alloc | apply Up.drewN | apply Up.drew))⟩
set_option maxHeartbeats 4000000 in
theorem FailR_c (a0 a1 a2 a3 a4 a5 a6 a7 t r0 r1 r2 r3 r4 r5 r6 r7 e : Int) (w : World) (h : failS ⟨a0, a1, a2, a3, a4, a5, a6, a7⟩ t = (⟨r0, r1, r2, r3, r4, r5, r6, r7⟩, e)) :
    Calls Try.prog 19 #[.agg #[.int .i64 a0, .int .i64 a1, .int .i64 a2, .int .i64 a3, .int .i64 a4, .int .i64 a5, .int .i64 a6, .int .i64 a7], .int .i64 t] w fun en w' => en = .returned (.tuple #[.agg #[.int .i64 r0, .int .i64 r1, .int .i64 r2, .int .i64 r3, .int .i64 r4, .int .i64 r5, .int .i64 r6, .int .i64 r7], .int .i64 e]) ∧ Up w w' := by
  have hu := Try.underlying31
  skip
  have HB := Up.refl w
  have H := Aside0.mk h
  clear h
  go_enter Try.func19, Try.ntmps19
  replace H := Aside0.mk (show turnS ⟨a0, a1, a2, a3, a4, a5, a6, a7⟩ t 2 0 = (⟨r0, r1, r2, r3, r4, r5, r6, r7⟩, e) from H.out)
  go_wp2_with (go_at_call 45; (with_reducible refine (become_c a0 a1 a2 a3 a4 a5 a6 a7 _ 2 _ r0 r1 r2 r3 r4 r5 r6 r7 _ _ H.out).mono ?_); rintro en w' ⟨rfl, hb⟩; obtain ⟨hc, hf, hz⟩ := Up.cells hb; simp at hz; have hk := Up.blk hb (blk_2 w _ _))
  exact bodyPost_ret (results_ct rfl _ _ (w.heap.size + 1) 31 #[.int .i64 r0, .int .i64 r1, .int .i64 r2, .int .i64 r3, .int .i64 r4, .int .i64 r5, .int .i64 r6, .int .i64 r7] (0, 0) _ rfl (blkput_8 hk) Try.underlying31 rfl (by kernel_rfl)) rfl ⟨rfl, (by have HU_ := (Up.step (by repeat (with_reducible first | exact HB | apply Up.alloc | apply Up.drewN | apply Up.drew)) hb : Up w w'); repeat (with_reducible first | exact HU_ | refine Up.set ?_ (by omega) | apply Up.alloc | apply Up.drewN | apply Up.drew))⟩
set_option maxHeartbeats 4000000 in
theorem RepairR_c (a0 a1 a2 a3 a4 a5 a6 a7 t r0 r1 r2 r3 r4 r5 r6 r7 e : Int) (w : World) (h : repairS ⟨a0, a1, a2, a3, a4, a5, a6, a7⟩ t = (⟨r0, r1, r2, r3, r4, r5, r6, r7⟩, e)) :
    Calls Try.prog 21 #[.agg #[.int .i64 a0, .int .i64 a1, .int .i64 a2, .int .i64 a3, .int .i64 a4, .int .i64 a5, .int .i64 a6, .int .i64 a7], .int .i64 t] w fun en w' => en = .returned (.tuple #[.agg #[.int .i64 r0, .int .i64 r1, .int .i64 r2, .int .i64 r3, .int .i64 r4, .int .i64 r5, .int .i64 r6, .int .i64 r7], .int .i64 e]) ∧ Up w w' := by
  have hu := Try.underlying31
  skip
  have HB := Up.refl w
  have H := Aside0.mk h
  clear h
  go_enter Try.func21, Try.ntmps21
  by_cases t1 : a4 = 2
  rotate_left
  · have h := H.out.symm.trans (if_neg t1)
    simp only [zGun, Prod.mk.injEq, SGun.mk.injEq] at h
    obtain ⟨⟨rfl, rfl, rfl, rfl, rfl, rfl, rfl, rfl⟩, rfl⟩ := h
    have t1n := bne_iff_ne.mpr t1; replace t1 := beq_eq_false_iff_ne.mpr t1
    go_wp2
    exact bodyPost_ret (v := .tuple #[.agg #[.int .i64 0, .int .i64 0, .int .i64 0, .int .i64 0, .int .i64 0, .int .i64 0, .int .i64 0, .int .i64 0], .int .i64 10]) (by simp [results, Try.results21, go_sem]) rfl ⟨rfl, (by repeat (with_reducible first | exact HB | apply Up.alloc | apply Up.drewN | apply Up.drew))⟩
  replace H := Aside0.mk (((if_pos t1).symm.trans H.out : turnS ⟨a0, a1, a2, a3, a4, a5, a6, a7⟩ t 0 0 = (⟨r0, r1, r2, r3, r4, r5, r6, r7⟩, e)))
  have t1n := bne_eq_false_iff_eq.mpr t1; replace t1 := beq_iff_eq.mpr t1
  go_wp2_with (go_at_call 45; (with_reducible refine (become_c a0 a1 a2 a3 a4 a5 a6 a7 _ 0 _ r0 r1 r2 r3 r4 r5 r6 r7 _ _ H.out).mono ?_); rintro en w' ⟨rfl, hb⟩; obtain ⟨hc, hf, hz⟩ := Up.cells hb; simp at hz; have hk := Up.blk hb (blk_2 w _ _))
  exact bodyPost_ret (results_ct rfl _ _ (w.heap.size + 1) 31 #[.int .i64 r0, .int .i64 r1, .int .i64 r2, .int .i64 r3, .int .i64 r4, .int .i64 r5, .int .i64 r6, .int .i64 r7] (0, 0) _ rfl (blkput_8 hk) Try.underlying31 rfl (by kernel_rfl)) rfl ⟨rfl, (by have HU_ := (Up.step (by repeat (with_reducible first | exact HB | apply Up.alloc | apply Up.drewN | apply Up.drew)) hb : Up w w'); repeat (with_reducible first | exact HU_ | refine Up.set ?_ (by omega) | apply Up.alloc | apply Up.drewN | apply Up.drew))⟩

end Go.Proofs.Ytahcalhpigmbgaa.H
