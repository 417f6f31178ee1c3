import Derived.Test.YtahcalhpigmbgaaHK
import Derived.Test.YtahcalhpigmbgaaHGs
namespace Go.Proofs.Ytahcalhpigmbgaa.H
open Go.RowKit Go.Proofs.YtahcalhpigmbgaaW.PrintWords Go.Proofs.YtahcalhpigmbgaaW.PrintLast Go.Proofs.YtahcalhpigmbgaaW.PrintMore
set_option linter.unusedVariables false
set_option linter.unusedSimpArgs false
/-! gun: named, and the exported Start, Stop, Fail, Repair of the program -/
set_option maxHeartbeats 4000000 in
theorem namedStart_c (a0 a1 a2 a3 a4 a5 a6 a7 t : Int) (w : World) :
    Calls Try.prog 44 #[.agg #[.int .i64 a0, .int .i64 a1, .int .i64 a2, .int .i64 a3, .int .i64 a4, .int .i64 a5, .int .i64 a6, .int .i64 a7, .int .i64 t], .string ⟨#[115, 116, 97, 114, 116]⟩] w fun en w' => en = .returned (.func (.func 55) #[.agg #[.int .i64 a0, .int .i64 a1, .int .i64 a2, .int .i64 a3, .int .i64 a4, .int .i64 a5, .int .i64 a6, .int .i64 a7, .int .i64 t]] #[]) ∧ Up w w' := by
  have hu2 := Try.underlying69
  have HB := Up.refl w
  go_enter Try.func44, Try.ntmps44
  go_wp2
  go_ret
  exact ⟨rfl, (by repeat (with_reducible first | exact HB | apply Up.alloc | apply Up.drewN | apply Up.drew))⟩
set_option maxHeartbeats 4000000 in
theorem Start_c (a0 a1 a2 a3 a4 a5 a6 a7 t r0 r1 r2 r3 r4 r5 r6 r7 e : Int) (w : World) (h : startS ⟨a0, a1, a2, a3, a4, a5, a6, a7⟩ t = (⟨r0, r1, r2, r3, r4, r5, r6, r7⟩, e)) :
    Calls Try.prog 14 #[.agg #[.int .i64 a0, .int .i64 a1, .int .i64 a2, .int .i64 a3, .int .i64 a4, .int .i64 a5, .int .i64 a6, .int .i64 a7], .int .i64 t] w fun en w' => en = .returned (.tuple #[.agg #[.int .i64 r0, .int .i64 r1, .int .i64 r2, .int .i64 r3, .int .i64 r4, .int .i64 r5, .int .i64 r6, .int .i64 r7], .int .i64 e]) ∧ Up w w' := by
  have hu := Try.underlying31
  have hu2 := Try.underlying69
  have HB := Up.refl w
  have H := Aside0.mk h
  clear h
  have eg : ∀ args w, (callFunc 55 args).run Try.prog w = .ok (.enter 55 args) w := fun args w => enters_ Try.func55 (by kernel_rfl) rfl args w
  go_enter Try.func14, Try.ntmps14
  go_wp2_with fail
  (with_reducible refine (namedStart_c a0 a1 a2 a3 a4 a5 a6 a7 t _).mono ?_)
  rintro en w1 ⟨rfl, hb1⟩
  go_wp2_with fail
  (with_reducible refine (start_c a0 a1 a2 a3 a4 a5 a6 a7 t r0 r1 r2 r3 r4 r5 r6 r7 e _ H.out).mono ?_)
  rintro en w2 ⟨rfl, hb2⟩
  have hb := Up.step hb1 hb2
  obtain ⟨hc, hf, hz⟩ := Up.cells hb
  simp at hz
  have hk := Up.blk hb (blk_2 w _ _)
  clear hb1 hb2
  go_wp2
  exact bodyPost_ret (results_ct rfl _ _ (w.heap.size + 1) 31 #[.int .i64 r0, .int .i64 r1, .int .i64 r2, .int .i64 r3, .int .i64 r4, .int .i64 r5, .int .i64 r6, .int .i64 r7] (0, 0) _ rfl (blkput_8 hk) Try.underlying31 rfl (by kernel_rfl)) rfl ⟨rfl, (by have HU_ := (Up.step (by repeat (with_reducible first | exact HB | apply Up.alloc | apply Up.drewN | apply Up.drew)) hb : Up w w2); repeat (with_reducible first | exact HU_ | refine Up.set ?_ (by omega) | apply Up.alloc | apply Up.drewN | apply Up.drew))⟩
set_option maxHeartbeats 4000000 in
theorem namedStop_c (a0 a1 a2 a3 a4 a5 a6 a7 t : Int) (w : World) :
    Calls Try.prog 44 #[.agg #[.int .i64 a0, .int .i64 a1, .int .i64 a2, .int .i64 a3, .int .i64 a4, .int .i64 a5, .int .i64 a6, .int .i64 a7, .int .i64 t], .string ⟨#[115, 116, 111, 112]⟩] w fun en w' => en = .returned (.func (.func 56) #[.agg #[.int .i64 a0, .int .i64 a1, .int .i64 a2, .int .i64 a3, .int .i64 a4, .int .i64 a5, .int .i64 a6, .int .i64 a7, .int .i64 t]] #[]) ∧ Up w w' := by
  have hu2 := Try.underlying69
  have HB := Up.refl w
  go_enter Try.func44, Try.ntmps44
  go_wp2
  go_ret
  exact ⟨rfl, (by repeat (with_reducible first | exact HB | apply Up.alloc | apply Up.drewN | apply Up.drew))⟩
set_option maxHeartbeats 4000000 in
theorem Stop_c (a0 a1 a2 a3 a4 a5 a6 a7 t r0 r1 r2 r3 r4 r5 r6 r7 e : Int) (w : World) (h : stopS ⟨a0, a1, a2, a3, a4, a5, a6, a7⟩ t = (⟨r0, r1, r2, r3, r4, r5, r6, r7⟩, e)) :
    Calls Try.prog 16 #[.agg #[.int .i64 a0, .int .i64 a1, .int .i64 a2, .int .i64 a3, .int .i64 a4, .int .i64 a5, .int .i64 a6, .int .i64 a7], .int .i64 t] w fun en w' => en = .returned (.tuple #[.agg #[.int .i64 r0, .int .i64 r1, .int .i64 r2, .int .i64 r3, .int .i64 r4, .int .i64 r5, .int .i64 r6, .int .i64 r7], .int .i64 e]) ∧ Up w w' := by
  have hu := Try.underlying31
  have hu2 := Try.underlying69
  have HB := Up.refl w
  have H := Aside0.mk h
  clear h
  have eg : ∀ args w, (callFunc 56 args).run Try.prog w = .ok (.enter 56 args) w := fun args w => enters_ Try.func56 (by kernel_rfl) rfl args w
  go_enter Try.func16, Try.ntmps16
  go_wp2_with fail
  (with_reducible refine (namedStop_c a0 a1 a2 a3 a4 a5 a6 a7 t _).mono ?_)
  rintro en w1 ⟨rfl, hb1⟩
  go_wp2_with fail
  (with_reducible refine (stop_c a0 a1 a2 a3 a4 a5 a6 a7 t r0 r1 r2 r3 r4 r5 r6 r7 e _ H.out).mono ?_)
  rintro en w2 ⟨rfl, hb2⟩
  have hb := Up.step hb1 hb2
  obtain ⟨hc, hf, hz⟩ := Up.cells hb
  simp at hz
  have hk := Up.blk hb (blk_2 w _ _)
  clear hb1 hb2
  go_wp2
  exact bodyPost_ret (results_ct rfl _ _ (w.heap.size + 1) 31 #[.int .i64 r0, .int .i64 r1, .int .i64 r2, .int .i64 r3, .int .i64 r4, .int .i64 r5, .int .i64 r6, .int .i64 r7] (0, 0) _ rfl (blkput_8 hk) Try.underlying31 rfl (by kernel_rfl)) rfl ⟨rfl, (by have HU_ := (Up.step (by repeat (with_reducible first | exact HB | apply Up.alloc | apply Up.drewN | apply Up.drew)) hb : Up w w2); repeat (with_reducible first | exact HU_ | refine Up.set ?_ (by omega) | apply Up.alloc | apply Up.drewN | apply Up.drew))⟩
set_option maxHeartbeats 4000000 in
theorem namedRepair_c (a0 a1 a2 a3 a4 a5 a6 a7 t : Int) (w : World) :
    Calls Try.prog 44 #[.agg #[.int .i64 a0, .int .i64 a1, .int .i64 a2, .int .i64 a3, .int .i64 a4, .int .i64 a5, .int .i64 a6, .int .i64 a7, .int .i64 t], .string ⟨#[114, 101, 112, 97, 105, 114]⟩] w fun en w' => en = .returned (.func (.func 57) #[.agg #[.int .i64 a0, .int .i64 a1, .int .i64 a2, .int .i64 a3, .int .i64 a4, .int .i64 a5, .int .i64 a6, .int .i64 a7, .int .i64 t]] #[]) ∧ Up w w' := by
  have hu2 := Try.underlying69
  have HB := Up.refl w
  go_enter Try.func44, Try.ntmps44
  go_wp2
  go_ret
  exact ⟨rfl, (by repeat (with_reducible first | exact HB | apply Up.alloc | apply Up.drewN | apply Up.drew))⟩
set_option maxHeartbeats 4000000 in
theorem Repair_c (a0 a1 a2 a3 a4 a5 a6 a7 t r0 r1 r2 r3 r4 r5 r6 r7 e : Int) (w : World) (h : repairS ⟨a0, a1, a2, a3, a4, a5, a6, a7⟩ t = (⟨r0, r1, r2, r3, r4, r5, r6, r7⟩, e)) :
    Calls Try.prog 20 #[.agg #[.int .i64 a0, .int .i64 a1, .int .i64 a2, .int .i64 a3, .int .i64 a4, .int .i64 a5, .int .i64 a6, .int .i64 a7], .int .i64 t] w fun en w' => en = .returned (.tuple #[.agg #[.int .i64 r0, .int .i64 r1, .int .i64 r2, .int .i64 r3, .int .i64 r4, .int .i64 r5, .int .i64 r6, .int .i64 r7], .int .i64 e]) ∧ Up w w' := by
  have hu := Try.underlying31
  have hu2 := Try.underlying69
  have HB := Up.refl w
  have H := Aside0.mk h
  clear h
  have eg : ∀ args w, (callFunc 57 args).run Try.prog w = .ok (.enter 57 args) w := fun args w => enters_ Try.func57 (by kernel_rfl) rfl args w
  go_enter Try.func20, Try.ntmps20
  go_wp2_with fail
  (with_reducible refine (namedRepair_c a0 a1 a2 a3 a4 a5 a6 a7 t _).mono ?_)
  rintro en w1 ⟨rfl, hb1⟩
  go_wp2_with fail
  (with_reducible refine (repair_c a0 a1 a2 a3 a4 a5 a6 a7 t r0 r1 r2 r3 r4 r5 r6 r7 e _ H.out).mono ?_)
  rintro en w2 ⟨rfl, hb2⟩
  have hb := Up.step hb1 hb2
  obtain ⟨hc, hf, hz⟩ := Up.cells hb
  simp at hz
  have hk := Up.blk hb (blk_2 w _ _)
  clear hb1 hb2
  go_wp2
  exact bodyPost_ret (results_ct rfl _ _ (w.heap.size + 1) 31 #[.int .i64 r0, .int .i64 r1, .int .i64 r2, .int .i64 r3, .int .i64 r4, .int .i64 r5, .int .i64 r6, .int .i64 r7] (0, 0) _ rfl (blkput_8 hk) Try.underlying31 rfl (by kernel_rfl)) rfl ⟨rfl, (by have HU_ := (Up.step (by repeat (with_reducible first | exact HB | apply Up.alloc | apply Up.drewN | apply Up.drew)) hb : Up w w2); repeat (with_reducible first | exact HU_ | refine Up.set ?_ (by omega) | apply Up.alloc | apply Up.drewN | apply Up.drew))⟩
set_option maxHeartbeats 4000000 in
theorem namedFail_c (a0 a1 a2 a3 a4 a5 a6 a7 t : Int) (w : World) :
    Calls Try.prog 44 #[.agg #[.int .i64 a0, .int .i64 a1, .int .i64 a2, .int .i64 a3, .int .i64 a4, .int .i64 a5, .int .i64 a6, .int .i64 a7, .int .i64 t], .string ⟨#[102, 97, 105, 108]⟩] w fun en w' => en = .returned (.func (.func 58) #[.agg #[.int .i64 a0, .int .i64 a1, .int .i64 a2, .int .i64 a3, .int .i64 a4, .int .i64 a5, .int .i64 a6, .int .i64 a7, .int .i64 t]] #[]) ∧ Up w w' := by
  have hu2 := Try.underlying69
  have HB := Up.refl w
  go_enter Try.func44, Try.ntmps44
  go_wp2
  go_ret
  exact ⟨rfl, (by repeat (with_reducible first | exact HB | apply Up.alloc | apply Up.drewN | apply Up.drew))⟩
set_option maxHeartbeats 4000000 in
theorem Fail_c (a0 a1 a2 a3 a4 a5 a6 a7 t r0 r1 r2 r3 r4 r5 r6 r7 e : Int) (w : World) (h : failS ⟨a0, a1, a2, a3, a4, a5, a6, a7⟩ t = (⟨r0, r1, r2, r3, r4, r5, r6, r7⟩, e)) :
    Calls Try.prog 18 #[.agg #[.int .i64 a0, .int .i64 a1, .int .i64 a2, .int .i64 a3, .int .i64 a4, .int .i64 a5, .int .i64 a6, .int .i64 a7], .int .i64 t] w fun en w' => en = .returned (.tuple #[.agg #[.int .i64 r0, .int .i64 r1, .int .i64 r2, .int .i64 r3, .int .i64 r4, .int .i64 r5, .int .i64 r6, .int .i64 r7], .int .i64 e]) ∧ Up w w' := by
  have hu := Try.underlying31
  have hu2 := Try.underlying69
  have HB := Up.refl w
  have H := Aside0.mk h
  clear h
  have eg : ∀ args w, (callFunc 58 args).run Try.prog w = .ok (.enter 58 args) w := fun args w => enters_ Try.func58 (by kernel_rfl) rfl args w
  go_enter Try.func18, Try.ntmps18
  go_wp2_with fail
  (with_reducible refine (namedFail_c a0 a1 a2 a3 a4 a5 a6 a7 t _).mono ?_)
  rintro en w1 ⟨rfl, hb1⟩
  go_wp2_with fail
  (with_reducible refine (fail_c a0 a1 a2 a3 a4 a5 a6 a7 t r0 r1 r2 r3 r4 r5 r6 r7 e _ H.out).mono ?_)
  rintro en w2 ⟨rfl, hb2⟩
  have hb := Up.step hb1 hb2
  obtain ⟨hc, hf, hz⟩ := Up.cells hb
  simp at hz
  have hk := Up.blk hb (blk_2 w _ _)
  clear hb1 hb2
  go_wp2
  exact bodyPost_ret (results_ct rfl _ _ (w.heap.size + 1) 31 #[.int .i64 r0, .int .i64 r1, .int .i64 r2, .int .i64 r3, .int .i64 r4, .int .i64 r5, .int .i64 r6, .int .i64 r7] (0, 0) _ rfl (blkput_8 hk) Try.underlying31 rfl (by kernel_rfl)) rfl ⟨rfl, (by have HU_ := (Up.step (by repeat (with_reducible first | exact HB | apply Up.alloc | apply Up.drewN | apply Up.drew)) hb : Up w w2); repeat (with_reducible first | exact HU_ | refine Up.set ?_ (by omega) | apply Up.alloc | apply Up.drewN | apply Up.drew))⟩

end Go.Proofs.Ytahcalhpigmbgaa.H
