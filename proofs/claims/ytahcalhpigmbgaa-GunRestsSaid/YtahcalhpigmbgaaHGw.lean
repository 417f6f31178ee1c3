import Derived.Test.YtahcalhpigmbgaaHK
namespace Go.Proofs.Ytahcalhpigmbgaa.H
open Go.RowKit Go.Proofs.YtahcalhpigmbgaaW.PrintWords Go.Proofs.YtahcalhpigmbgaaW.PrintLast Go.Proofs.YtahcalhpigmbgaaW.PrintMore
set_option linter.unusedVariables false
set_option linter.unusedSimpArgs false
/-! gun: the switcher -/
def turnS (g : SGun) (t state rest : Int) : SGun × Int :=
  if t < g.f5 ∨ 20000000 < t then (zGun, 11) else if t < wrap64 (g.f5 + rest) then (zGun, 13) else ({ g with f4 := state, f5 := t }, 0)
def startS (g : SGun) (t : Int) : SGun × Int := if g.f4 = 0 then turnS g t 1 g.f7 else (zGun, 10)
def stopS (g : SGun) (t : Int) : SGun × Int := if g.f4 = 1 then turnS g t 0 g.f6 else (zGun, 10)
def failS (g : SGun) (t : Int) : SGun × Int := turnS g t 2 0
def repairS (g : SGun) (t : Int) : SGun × Int := if g.f4 = 2 then turnS g t 0 0 else (zGun, 10)
set_option maxHeartbeats 4000000 in
theorem turn_c (a0 a1 a2 a3 a4 a5 a6 a7 t state rest r0 r1 r2 r3 r4 r5 r6 r7 e : Int) (w : World) (h : turnS ⟨a0, a1, a2, a3, a4, a5, a6, a7⟩ t state rest = (⟨r0, r1, r2, r3, r4, r5, r6, r7⟩, e)) :
    Calls Try.prog 63 #[.agg #[.int .i64 a0, .int .i64 a1, .int .i64 a2, .int .i64 a3, .int .i64 a4, .int .i64 a5, .int .i64 a6, .int .i64 a7, .int .i64 t], .int .i64 state, .int .i64 rest] w fun en w' => en = .returned (.tuple #[.agg #[.int .i64 r0, .int .i64 r1, .int .i64 r2, .int .i64 r3, .int .i64 r4, .int .i64 r5, .int .i64 r6, .int .i64 r7], .int .i64 e]) ∧ Up w w' := by
  have hu := Try.underlying31
  have hu2 := Try.underlying69
  have HB := Up.refl w
  have H := Aside0.mk h
  clear h
  go_enter Try.func63, Try.ntmps63
  by_cases t1 : t < a5
  · have h := H.out.symm.trans (if_pos (.inl t1))
    simp only [zGun, Prod.mk.injEq, SGun.mk.injEq] at h
    obtain ⟨⟨rfl, rfl, rfl, rfl, rfl, rfl, rfl, rfl⟩, rfl⟩ := h
    replace t1 := decide_eq_true t1
    go_wp2
    exact bodyPost_ret (v := .tuple #[.agg #[.int .i64 0, .int .i64 0, .int .i64 0, .int .i64 0, .int .i64 0, .int .i64 0, .int .i64 0, .int .i64 0], .int .i64 11]) (by simp [results, Try.results63, go_sem]) rfl ⟨rfl, (by repeat (with_reducible first | exact HB | apply Up.alloc | apply Up.drewN | apply Up.drew))⟩
  by_cases t2 : 20000000 < t
  · have h := H.out.symm.trans (if_pos (.inr t2))
    simp only [zGun, Prod.mk.injEq, SGun.mk.injEq] at h
    obtain ⟨⟨rfl, rfl, rfl, rfl, rfl, rfl, rfl, rfl⟩, rfl⟩ := h
    replace t1 := decide_eq_false t1
    replace t2 := decide_eq_true t2
    go_wp2
    exact bodyPost_ret (v := .tuple #[.agg #[.int .i64 0, .int .i64 0, .int .i64 0, .int .i64 0, .int .i64 0, .int .i64 0, .int .i64 0, .int .i64 0], .int .i64 11]) (by simp [results, Try.results63, go_sem]) rfl ⟨rfl, (by repeat (with_reducible first | exact HB | apply Up.alloc | apply Up.drewN | apply Up.drew))⟩
  have H2 := Aside0.mk (H.out.symm.trans (if_neg (by rintro (h | h); exact t1 h; exact t2 h)))
  replace t1 := decide_eq_false t1; replace t2 := decide_eq_false t2
  by_cases t3 : t < wrap64 (a5 + rest)
  · have h := H2.out.trans (if_pos t3)
    simp only [zGun, Prod.mk.injEq, SGun.mk.injEq] at h
    obtain ⟨⟨rfl, rfl, rfl, rfl, rfl, rfl, rfl, rfl⟩, rfl⟩ := h
    replace t3 := decide_eq_true t3
    go_wp2
    exact bodyPost_ret (v := .tuple #[.agg #[.int .i64 0, .int .i64 0, .int .i64 0, .int .i64 0, .int .i64 0, .int .i64 0, .int .i64 0, .int .i64 0], .int .i64 13]) (by simp [results, Try.results63, go_sem]) rfl ⟨rfl, (by repeat (with_reducible first | exact HB | apply Up.alloc | apply Up.drewN | apply Up.drew))⟩
  · have h := H2.out.trans (if_neg t3)
    simp only [Prod.mk.injEq, SGun.mk.injEq] at h
    obtain ⟨⟨rfl, rfl, rfl, rfl, rfl, rfl, rfl, rfl⟩, rfl⟩ := h
    replace t3 := decide_eq_false t3
    go_wp2
    go_region
    all_goals
      go_wp2
      exact bodyPost_ret (v := .tuple #[.agg #[.int .i64 r0, .int .i64 r1, .int .i64 r2, .int .i64 r3, .int .i64 r4, .int .i64 r5, .int .i64 r6, .int .i64 r7], .int .i64 0]) (by simp [results, Try.results63, go_sem]) rfl ⟨rfl, (by repeat (with_reducible first | exact HB | apply Up.alloc | apply Up.drewN | apply Up.drew))⟩
set_option maxHeartbeats 4000000 in
theorem become_c (a0 a1 a2 a3 a4 a5 a6 a7 t state rest r0 r1 r2 r3 r4 r5 r6 r7 e : Int) (w : World) (h : turnS ⟨a0, a1, a2, a3, a4, a5, a6, a7⟩ t state rest = (⟨r0, r1, r2, r3, r4, r5, r6, r7⟩, e)) :
    Calls Try.prog 45 #[.agg #[.int .i64 a0, .int .i64 a1, .int .i64 a2, .int .i64 a3, .int .i64 a4, .int .i64 a5, .int .i64 a6, .int .i64 a7], .int .i64 state, .int .i64 t, .int .i64 rest] w fun en w' => en = .returned (.tuple #[.agg #[.int .i64 r0, .int .i64 r1, .int .i64 r2, .int .i64 r3, .int .i64 r4, .int .i64 r5, .int .i64 r6, .int .i64 r7], .int .i64 e]) ∧ Up w w' := by
  have hu := Try.underlying31
  skip
  have HB := Up.refl w
  have H := Aside0.mk h
  clear h
  go_enter Try.func45, Try.ntmps45
  by_cases t1 : t < a5
  · have h := H.out.symm.trans (if_pos (.inl t1))
    simp only [zGun, Prod.mk.injEq, SGun.mk.injEq] at h
    obtain ⟨⟨rfl, rfl, rfl, rfl, rfl, rfl, rfl, rfl⟩, rfl⟩ := h
    replace t1 := decide_eq_true t1
    go_wp2
    exact bodyPost_ret (v := .tuple #[.agg #[.int .i64 0, .int .i64 0, .int .i64 0, .int .i64 0, .int .i64 0, .int .i64 0, .int .i64 0, .int .i64 0], .int .i64 11]) (by simp [results, Try.results45, go_sem]) rfl ⟨rfl, (by repeat (with_reducible first | exact HB | apply Up.alloc | apply Up.drewN | apply Up.drew))⟩
  by_cases t2 : 20000000 < t
  · have h := H.out.symm.trans (if_pos (.inr t2))
    simp only [zGun, Prod.mk.injEq, SGun.mk.injEq] at h
    obtain ⟨⟨rfl, rfl, rfl, rfl, rfl, rfl, rfl, rfl⟩, rfl⟩ := h
    replace t1 := decide_eq_false t1
    replace t2 := decide_eq_true t2
    go_wp2
    exact bodyPost_ret (v := .tuple #[.agg #[.int .i64 0, .int .i64 0, .int .i64 0, .int .i64 0, .int .i64 0, .int .i64 0, .int .i64 0, .int .i64 0], .int .i64 11]) (by simp [results, Try.results45, go_sem]) rfl ⟨rfl, (by repeat (with_reducible first | exact HB | apply Up.alloc | apply Up.drewN | apply Up.drew))⟩
  have H2 := Aside0.mk (H.out.symm.trans (if_neg (by rintro (h | h); exact t1 h; exact t2 h)))
  replace t1 := decide_eq_false t1; replace t2 := decide_eq_false t2
  by_cases t3 : t < wrap64 (a5 + rest)
  · have h := H2.out.trans (if_pos t3)
    simp only [zGun, Prod.mk.injEq, SGun.mk.injEq] at h
    obtain ⟨⟨rfl, rfl, rfl, rfl, rfl, rfl, rfl, rfl⟩, rfl⟩ := h
    replace t3 := decide_eq_true t3
    go_wp2
    exact bodyPost_ret (v := .tuple #[.agg #[.int .i64 0, .int .i64 0, .int .i64 0, .int .i64 0, .int .i64 0, .int .i64 0, .int .i64 0, .int .i64 0], .int .i64 13]) (by simp [results, Try.results45, go_sem]) rfl ⟨rfl, (by repeat (with_reducible first | exact HB | apply Up.alloc | apply Up.drewN | apply Up.drew))⟩
  · have h := H2.out.trans (if_neg t3)
    simp only [Prod.mk.injEq, SGun.mk.injEq] at h
    obtain ⟨⟨rfl, rfl, rfl, rfl, rfl, rfl, rfl, rfl⟩, rfl⟩ := h
    replace t3 := decide_eq_false t3
    go_wp2
    exact bodyPost_ret (v := .tuple #[.agg #[.int .i64 r0, .int .i64 r1, .int .i64 r2, .int .i64 r3, .int .i64 r4, .int .i64 r5, .int .i64 r6, .int .i64 r7], .int .i64 0]) (by simp [results, Try.results45, go_sem]) rfl ⟨rfl, (by repeat (with_reducible first | exact HB | apply Up.alloc | apply Up.drewN | apply Up.drew))⟩

end Go.Proofs.Ytahcalhpigmbgaa.H
