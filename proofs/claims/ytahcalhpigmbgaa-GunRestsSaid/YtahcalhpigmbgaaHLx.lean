import Derived.Test.YtahcalhpigmbgaaHK
import Derived.Test.YtahcalhpigmbgaaHLs
import Derived.Test.YtahcalhpigmbgaaHHd
namespace Go.Proofs.Ytahcalhpigmbgaa.H
open Go.RowKit Go.Proofs.YtahcalhpigmbgaaW.PrintWords Go.Proofs.YtahcalhpigmbgaaW.PrintLast Go.Proofs.YtahcalhpigmbgaaW.PrintMore
set_option linter.unusedVariables false
set_option linter.unusedSimpArgs false
/-! act; what a call says -/
attribute [local go_sem high] eqA31
def actS (g : SGun) (k t : Int) : SGun × Int := if k = 0 then startS g t else if k = 1 then stopS g t else if k = 2 then failS g t else repairS g t
set_option maxHeartbeats 8000000 in
theorem act_c (a0 a1 a2 a3 a4 a5 a6 a7 k t r0 r1 r2 r3 r4 r5 r6 r7 e : Int) (w : World) (h : actS ⟨a0, a1, a2, a3, a4, a5, a6, a7⟩ k t = (⟨r0, r1, r2, r3, r4, r5, r6, r7⟩, e)) :
    Calls Try.prog 32 #[.agg #[.int .i64 a0, .int .i64 a1, .int .i64 a2, .int .i64 a3, .int .i64 a4, .int .i64 a5, .int .i64 a6, .int .i64 a7], .agg #[.int .i64 k, .int .i64 t]] w fun en w' => en = .returned (.tuple #[.agg #[.int .i64 r0, .int .i64 r1, .int .i64 r2, .int .i64 r3, .int .i64 r4, .int .i64 r5, .int .i64 r6, .int .i64 r7], .int .i64 e]) ∧ Up w w' := by
  have hu := Try.underlying31
  have hu2 := Try.underlying49
  have HB := Up.refl w
  have H := Aside0.mk h
  clear h
  go_enter Try.func32, Try.ntmps32
  by_cases t0 : k = 0
  · have H := Aside0.mk (show startS ⟨a0, a1, a2, a3, a4, a5, a6, a7⟩ t = (⟨r0, r1, r2, r3, r4, r5, r6, r7⟩, e) from (if_pos t0).symm.trans H.out)
    have t0n := bne_eq_false_iff_eq.mpr t0; replace t0 := beq_iff_eq.mpr t0
    go_wp2_with fail
    (with_reducible refine (Start_c a0 a1 a2 a3 a4 a5 a6 a7 t r0 r1 r2 r3 r4 r5 r6 r7 e _ H.out).mono ?_)
    rintro en w2 ⟨rfl, hb⟩
    obtain ⟨hc, hf, hz⟩ := Up.cells hb
    simp at hz
    have hk := Up.blk hb (blk_3 w _ _ _)
    go_wp2
    exact bodyPost_ret (results_ct rfl _ _ (w.heap.size + 1 + 1) 31 #[.int .i64 r0, .int .i64 r1, .int .i64 r2, .int .i64 r3, .int .i64 r4, .int .i64 r5, .int .i64 r6, .int .i64 r7] (0, 0) _ rfl (blkput_8 hk) Try.underlying31 rfl (by kernel_rfl)) rfl ⟨rfl, (by have HU_ := (Up.step (by repeat (with_reducible first | exact HB | apply Up.alloc | apply Up.drewN | apply Up.drew)) hb : Up w w2); repeat (with_reducible first | exact HU_ | refine Up.set ?_ (by omega) | apply Up.alloc | apply Up.drewN | apply Up.drew))⟩
  have H := Aside0.mk ((if_neg t0).symm.trans H.out)
  have t0n := bne_iff_ne.mpr t0; replace t0 := beq_eq_false_iff_ne.mpr t0
  by_cases t1 : k = 1
  · have H := Aside0.mk (show stopS ⟨a0, a1, a2, a3, a4, a5, a6, a7⟩ t = (⟨r0, r1, r2, r3, r4, r5, r6, r7⟩, e) from (if_pos t1).symm.trans H.out)
    have t1n := bne_eq_false_iff_eq.mpr t1; replace t1 := beq_iff_eq.mpr t1
    go_wp2_with fail
    (with_reducible refine (Stop_c a0 a1 a2 a3 a4 a5 a6 a7 t r0 r1 r2 r3 r4 r5 r6 r7 e _ H.out).mono ?_)
    rintro en w2 ⟨rfl, hb⟩
    obtain ⟨hc, hf, hz⟩ := Up.cells hb
    simp at hz
    have hk := Up.blk hb (blk_3 w _ _ _)
    go_wp2
    exact bodyPost_ret (results_ct rfl _ _ (w.heap.size + 1 + 1) 31 #[.int .i64 r0, .int .i64 r1, .int .i64 r2, .int .i64 r3, .int .i64 r4, .int .i64 r5, .int .i64 r6, .int .i64 r7] (0, 0) _ rfl (blkput_8 hk) Try.underlying31 rfl (by kernel_rfl)) rfl ⟨rfl, (by have HU_ := (Up.step (by repeat (with_reducible first | exact HB | apply Up.alloc | apply Up.drewN | apply Up.drew)) hb : Up w w2); repeat (with_reducible first | exact HU_ | refine Up.set ?_ (by omega) | apply Up.alloc | apply Up.drewN | apply Up.drew))⟩
  have H := Aside0.mk ((if_neg t1).symm.trans H.out)
  have t1n := bne_iff_ne.mpr t1; replace t1 := beq_eq_false_iff_ne.mpr t1
  by_cases t2 : k = 2
  · have H := Aside0.mk (show failS ⟨a0, a1, a2, a3, a4, a5, a6, a7⟩ t = (⟨r0, r1, r2, r3, r4, r5, r6, r7⟩, e) from (if_pos t2).symm.trans H.out)
    have t2n := bne_eq_false_iff_eq.mpr t2; replace t2 := beq_iff_eq.mpr t2
    go_wp2_with fail
    (with_reducible refine (Fail_c a0 a1 a2 a3 a4 a5 a6 a7 t r0 r1 r2 r3 r4 r5 r6 r7 e _ H.out).mono ?_)
    rintro en w2 ⟨rfl, hb⟩
    obtain ⟨hc, hf, hz⟩ := Up.cells hb
    simp at hz
    have hk := Up.blk hb (blk_3 w _ _ _)
    go_wp2
    exact bodyPost_ret (results_ct rfl _ _ (w.heap.size + 1 + 1) 31 #[.int .i64 r0, .int .i64 r1, .int .i64 r2, .int .i64 r3, .int .i64 r4, .int .i64 r5, .int .i64 r6, .int .i64 r7] (0, 0) _ rfl (blkput_8 hk) Try.underlying31 rfl (by kernel_rfl)) rfl ⟨rfl, (by have HU_ := (Up.step (by repeat (with_reducible first | exact HB | apply Up.alloc | apply Up.drewN | apply Up.drew)) hb : Up w w2); repeat (with_reducible first | exact HU_ | refine Up.set ?_ (by omega) | apply Up.alloc | apply Up.drewN | apply Up.drew))⟩
  have H := Aside0.mk ((if_neg t2).symm.trans H.out)
  have t2n := bne_iff_ne.mpr t2; replace t2 := beq_eq_false_iff_ne.mpr t2
  go_wp2_with fail
  (with_reducible refine (Repair_c a0 a1 a2 a3 a4 a5 a6 a7 t r0 r1 r2 r3 r4 r5 r6 r7 e _ H.out).mono ?_)
  rintro en w2 ⟨rfl, hb⟩
  obtain ⟨hc, hf, hz⟩ := Up.cells hb
  simp at hz
  have hk := Up.blk hb (blk_3 w _ _ _)
  go_wp2
  exact bodyPost_ret (results_ct rfl _ _ (w.heap.size + 1 + 1) 31 #[.int .i64 r0, .int .i64 r1, .int .i64 r2, .int .i64 r3, .int .i64 r4, .int .i64 r5, .int .i64 r6, .int .i64 r7] (0, 0) _ rfl (blkput_8 hk) Try.underlying31 rfl (by kernel_rfl)) rfl ⟨rfl, (by have HU_ := (Up.step (by repeat (with_reducible first | exact HB | apply Up.alloc | apply Up.drewN | apply Up.drew)) hb : Up w w2); repeat (with_reducible first | exact HU_ | refine Up.set ?_ (by omega) | apply Up.alloc | apply Up.drewN | apply Up.drew))⟩
theorem turnS_err {g x : SGun} {t s r e : Int} (h : turnS g t s r = (x, e)) (he : e ≠ 0) : x = zGun := by
  unfold turnS at h
  split at h
  · exact ((Prod.mk.inj h).1).symm
  · split at h
    · exact ((Prod.mk.inj h).1).symm
    · exact absurd (Prod.mk.inj h).2.symm he
theorem actS_err {g x : SGun} {k t e : Int} (h : actS g k t = (x, e)) (he : e ≠ 0) : x = zGun := by
  unfold actS startS stopS failS repairS at h
  repeat (first | exact turnS_err h he | exact ((Prod.mk.inj h).1).symm | split at h)
theorem turnS_ok {g x : SGun} {t s r : Int} (h : turnS g t s r = (x, 0)) : x = { g with f4 := s, f5 := t } ∧ g.f5 ≤ t ∧ t ≤ 20000000 ∧ wrap64 (g.f5 + r) ≤ t := by
  unfold turnS at h
  split at h
  · exact absurd (Prod.mk.inj h).2 (by decide)
  · split at h
    · exact absurd (Prod.mk.inj h).2 (by decide)
    · exact ⟨((Prod.mk.inj h).1).symm, by omega, by omega, by omega⟩
theorem actS_ok {g x : SGun} {k t : Int} (h : actS g k t = (x, 0)) (h6 : 0 ≤ g.f6 ∧ g.f6 ≤ 86400) (h7 : 0 ≤ g.f7 ∧ g.f7 ≤ 86400) (h5 : 0 ≤ g.f5 ∧ g.f5 ≤ 20000000) :
    ∃ s, x = { g with f4 := s, f5 := t } ∧ 0 ≤ s ∧ s ≤ 2 ∧ g.f5 ≤ t ∧ t ≤ 20000000 ∧ (k = 0 → g.f4 = 0 ∧ s = 1 ∧ g.f7 ≤ wrap64 (t - g.f5)) ∧ (k = 1 → g.f4 = 1 ∧ s = 0 ∧ g.f6 ≤ wrap64 (t - g.f5)) ∧ (k = 2 → s = 2) := by
  unfold actS at h
  split at h
  · rename_i hk
    unfold startS at h
    split at h
    · rename_i h4
      obtain ⟨a, b, c, d⟩ := turnS_ok h
      refine ⟨1, a, by omega, by omega, b, c, fun _ => ⟨h4, rfl, ?_⟩, fun _ => by omega, fun _ => by omega⟩
      unfold wrap64 at d ⊢; omega
    · exact absurd (Prod.mk.inj h).2 (by decide)
  split at h
  · rename_i hk
    unfold stopS at h
    split at h
    · rename_i h4
      obtain ⟨a, b, c, d⟩ := turnS_ok h
      refine ⟨0, a, by omega, by omega, b, c, fun _ => by omega, fun _ => ⟨h4, rfl, ?_⟩, fun _ => by omega⟩
      unfold wrap64 at d ⊢; omega
    · exact absurd (Prod.mk.inj h).2 (by decide)
  split at h
  · obtain ⟨a, b, c, d⟩ := turnS_ok h
    exact ⟨2, a, by omega, by omega, b, c, fun _ => by omega, fun _ => by omega, fun _ => rfl⟩
  · unfold repairS at h
    split at h
    · obtain ⟨a, b, c, d⟩ := turnS_ok h
      exact ⟨0, a, by omega, by omega, b, c, fun _ => by omega, fun _ => by omega, fun _ => by omega⟩
    · exact absurd (Prod.mk.inj h).2 (by decide)

end Go.Proofs.Ytahcalhpigmbgaa.H
