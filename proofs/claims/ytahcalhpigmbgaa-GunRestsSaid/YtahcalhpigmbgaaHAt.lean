import Derived.Test.YtahcalhpigmbgaaHK
import Derived.Test.YtahcalhpigmbgaaHFx
namespace Go.Proofs.Ytahcalhpigmbgaa.H
open Go.RowKit Go.Proofs.YtahcalhpigmbgaaW.PrintWords Go.Proofs.YtahcalhpigmbgaaW.PrintLast Go.Proofs.YtahcalhpigmbgaaW.PrintMore
set_option linter.unusedVariables false
set_option linter.unusedSimpArgs false
def segF (l : List SPoint) (x : Int) : Nat → Int → Int
  | 0, i => i
  | d + 1, i => if (rd_Point l (i + 1)).f0 ≤ x then segF l x d (i + 1) else i
def lineV (l : List SPoint) (x i : Int) : Int :=
  (rd_Point l i).f1 + ((rd_Point l (i + 1)).f1 - (rd_Point l i).f1) * (x - (rd_Point l i).f0) / ((rd_Point l (i + 1)).f0 - (rd_Point l i).f0)
def atV (l : List SPoint) (x : Int) : Int :=
  if x ≤ (rd_Point l 0).f0 then (rd_Point l 0).f1 else if (rd_Point l ((l.length : Int) - 1)).f0 ≤ x then (rd_Point l ((l.length : Int) - 1)).f1 else lineV l x (segF l x (l.length - 1 - (0 : Int).toNat) 0)
def atE (l : List SPoint) (x : Int) : Int × Int := if ptsB l = true then (atV l x, 0) else (0, 1)
theorem allF_at {p : Int → Bool} {n : Nat} (h : allF p (n - (0 : Int).toNat) 0 = true) : ∀ i : Int, 0 ≤ i → i < n → p i = true := by
  have : ∀ (d : Nat) (j : Int), allF p d j = true → ∀ i, j ≤ i → i < j + d → p i = true := by
    intro d
    induction d with
    | zero => intro j _ i h1 h2; omega
    | succ d ih =>
      intro j h i h1 h2
      simp only [allF, Bool.and_eq_true] at h
      by_cases e : i = j
      · rw [e]; exact h.1
      · exact ih (j + 1) h.2 i (by omega) (by omega)
  intro i h0 h1
  exact this _ 0 h i h0 (by simp; omega)
theorem pts_at {l : List SPoint} (h : ptsB l = true) : 1 ≤ l.length ∧ l.length ≤ 64 ∧ ∀ i : Int, 0 ≤ i → i < l.length →
    -1000000000 ≤ (rd_Point l i).f0 ∧ (rd_Point l i).f0 ≤ 1000000000 ∧ -1000000000 ≤ (rd_Point l i).f1 ∧ (rd_Point l i).f1 ≤ 1000000000 ∧ (0 < i → (rd_Point l (i - 1)).f0 < (rd_Point l i).f0) := by
  simp only [ptsB, Bool.and_eq_true, decide_eq_true_eq] at h
  refine ⟨h.1.1, h.1.2, fun i h0 h1 => ?_⟩
  have := allF_at h.2 i h0 h1
  simp only [okP, decide_eq_true_eq] at this
  exact this
theorem prod_bd {a b : Int} (h0 : -2000000000 ≤ a) (h1 : a ≤ 2000000000) (h2 : 0 ≤ b) (h3 : b ≤ 2000000000) : -4000000000000000000 ≤ a * b ∧ a * b ≤ 4000000000000000000 := by
  have e1 := Int.mul_le_mul_of_nonneg_right h1 h2
  have e2 := Int.mul_le_mul_of_nonneg_right h0 h2
  omega
theorem line_facts {l : List SPoint} {x i j : Int} (hj : i + 1 = j) (hi : -1000000000 ≤ (rd_Point l i).f0 ∧ (rd_Point l i).f0 ≤ 1000000000 ∧ -1000000000 ≤ (rd_Point l i).f1 ∧ (rd_Point l i).f1 ≤ 1000000000)
    (hk : -1000000000 ≤ (rd_Point l j).f0 ∧ (rd_Point l j).f0 ≤ 1000000000 ∧ -1000000000 ≤ (rd_Point l j).f1 ∧ (rd_Point l j).f1 ≤ 1000000000) (hx : (rd_Point l i).f0 ≤ x) (hx2 : x < (rd_Point l j).f0) :
    ∃ dY dX P D q : Int, wrap64 ((rd_Point l j).f1 - (rd_Point l i).f1) = dY ∧ wrap64 (x - (rd_Point l i).f0) = dX ∧ wrap64 (dY * dX) = P ∧ wrap64 ((rd_Point l j).f0 - (rd_Point l i).f0) = D ∧ 0 < D ∧ -4611686018427387904 ≤ P ∧ P ≤ 4611686018427387904 ∧ P / D = q ∧ wrap64 ((rd_Point l i).f1 + q) = lineV l x i := by
  have hb := prod_bd (a := (rd_Point l j).f1 - (rd_Point l i).f1) (b := x - (rd_Point l i).f0) (by omega) (by omega) (by omega) (by omega)
  have hq := div_bd (((rd_Point l j).f1 - (rd_Point l i).f1) * (x - (rd_Point l i).f0)) ((rd_Point l j).f0 - (rd_Point l i).f0) (by omega) (by omega) (by omega)
  refine ⟨(rd_Point l j).f1 - (rd_Point l i).f1, x - (rd_Point l i).f0, ((rd_Point l j).f1 - (rd_Point l i).f1) * (x - (rd_Point l i).f0), (rd_Point l j).f0 - (rd_Point l i).f0, _, ?_, ?_, ?_, ?_, by omega, by omega, by omega, rfl, ?_⟩
  · unfold wrap64; omega
  · unfold wrap64; omega
  · unfold wrap64; omega
  · unfold wrap64; omega
  · unfold lineV; rw [hj]; unfold wrap64; omega
set_option maxHeartbeats 8000000 in
theorem At_c (A0 : Option Addr) (c0 : Nat) (l : List SPoint) (x : Int) (w : World) (r1 r2 : Int) (h : atE l x = (r1, r2)) (hr0 : Kd.C kPoint w A0 l.length l) :
    Calls Try.prog 46 #[.slice A0 l.length c0, .int .i64 x] w fun e w' => e = .returned (.tuple #[.int .i64 r1, .int .i64 r2]) ∧ Up w w' := by
  have hu := Try.underlying66
  have HB := Up.refl w
  cases hp : ptsB l
  · obtain ⟨rfl, rfl⟩ : 0 = r1 ∧ 1 = r2 := by simpa [atE, hp] using h
    clear h
    go_enter Try.func46, Try.ntmps46
    go_wp2_with (go_at_call 59; refine (points_c _ _ _ _ false hp hr0).mono ?_; rintro e w' ⟨rfl, hb⟩)
    go_ret2
    exact ⟨rfl, hb⟩
  obtain ⟨hn1, hn2, hpt⟩ := pts_at hp
  have HPT := Aside0.mk hpt
  have HN := Aside0.mk (And.intro hn1 hn2)
  obtain ⟨m, hm⟩ : ∃ m : Int, (l.length : Int) - 1 = m := ⟨_, rfl⟩
  have HM := Aside0.mk hm
  have hm1 : wrap64 ((l.length : Int) - 1) = m := by unfold wrap64; omega
  have hm2 : IntKind.i64.wrap ((l.length : Int) - 1) = m := (i64_w _).trans hm1
  have hv : (if x ≤ (rd_Point l 0).f0 then (rd_Point l 0).f1 else if (rd_Point l m).f0 ≤ x then (rd_Point l m).f1 else lineV l x (segF l x (l.length - 1 - (0 : Int).toNat) 0)) = r1 ∧ 0 = r2 := by
    simpa [atE, hp, atV, hm] using h
  obtain ⟨hv, rfl⟩ := hv
  have HV := Aside0.mk hv
  obtain ⟨ad, rfl⟩ : ∃ ad, A0 = some ad := by obtain ⟨ad, e, _⟩ := at_Point hr0 0 (by omega) (by omega); exact ⟨ad, e⟩
  have HR := Aside0.mk hr0
  obtain ⟨hx0, hx1⟩ := rx_Point hr0
  obtain ⟨hz0, hz1⟩ := rx0_Point hr0 (by omega)
  have p0 : 0 ≤ m := by omega
  have q0 : m < l.length := by omega
  have q1 : (0 : Int) < l.length := by omega
  have q2 : 0 < l.length := by omega
  replace p0 := eq_true p0; replace q0 := eq_true q0; replace q1 := eq_true q1; replace q2 := eq_true q2
  clear h hm hv hr0 hpt hn1 hn2
  go_enter Try.func46, Try.ntmps46
  by_cases t1 : x ≤ (rd_Point l 0).f0
  · have HO := Aside0.mk (show (rd_Point l 0).f1 = r1 by have := HV.out; rwa [if_pos t1] at this)
    replace t1 := decide_eq_true t1
    go_wp2_with (go_at_call 59; refine (points_c _ _ _ _ true hp HR.out).mono ?_; rintro e w' ⟨rfl, hb⟩)
    go_ret2
    exact ⟨ret_ii HO.out rfl, (by repeat (with_reducible first | exact hb | apply Up.alloc | apply Up.drewN | apply Up.drew))⟩
  replace HV := Aside0.mk ((if_neg t1).symm.trans HV.out)
  by_cases t2 : (rd_Point l m).f0 ≤ x
  · have HO := Aside0.mk (show (rd_Point l m).f1 = r1 by have := HV.out; rwa [if_pos t2] at this)
    replace t1 := decide_eq_false t1
    replace t2 := decide_eq_true t2
    go_wp2_with (go_at_call 59; refine (points_c _ _ _ _ true hp HR.out).mono ?_; rintro e w' ⟨rfl, hb⟩)
    go_ret2
    exact ⟨ret_ii HO.out rfl, (by repeat (with_reducible first | exact hb | apply Up.alloc | apply Up.drewN | apply Up.drew))⟩
  replace HV := Aside0.mk ((if_neg t2).symm.trans HV.out)
  have T1 := Aside0.mk t1
  have T2 := Aside0.mk t2
  replace t1 := decide_eq_false t1; replace t2 := decide_eq_false t2
  go_wp2_with (go_at_call 59; refine (points_c _ _ _ _ true hp HR.out).mono ?_; rintro e w' ⟨rfl, hb⟩)
  clear HB
  have HS := Aside0.mk (rfl : segF l x (l.length - 1 - (0 : Int).toNat) 0 = segF l x (l.length - 1 - (0 : Int).toNat) 0)
  have hz : (rd_Point l 0).f0 ≤ x := by have := T1.out; omega
  have hm0 : (0 : Int) < m := by
    have h1 := HM.out; have h2 := T2.out; have h3 := HN.out.1
    by_cases e : m = 0
    · rw [e] at h2; omega
    · omega
  go_loopg [7] (l.length) (fun gk v7 w' => ∃ i : Int, v7 = .int .i64 i ∧ 0 ≤ i ∧ i < m ∧ m.toNat - i.toNat ≤ gk ∧ Aside0 ((rd_Point l i).f0 ≤ x) ∧ Aside0 (segF l x (l.length - 1 - (0 : Int).toNat) 0 = segF l x (l.length - 1 - i.toNat) i) ∧ Up w w')
  case atStart => exact ⟨0, rfl, by omega, hm0, by have := HM.out; omega, ⟨hz⟩, HS, (by repeat (with_reducible first | exact hb | apply Up.alloc | apply Up.drewN | apply Up.drew))⟩
  case round =>
    clear HS hb hz hm0
    obtain ⟨i, rfl, hi, him, hg, HX, HS, HB⟩ := hrel
    have HI := Aside0.mk (And.intro hi him)
    obtain ⟨j, hj⟩ : ∃ j : Int, i + 1 = j := ⟨_, rfl⟩
    have HJ := Aside0.mk hj
    have hj1 : wrap64 (i + 1) = j := by have := HM.out; have := HN.out; unfold wrap64; omega
    have hj2 : IntKind.i64.wrap (i + 1) = j := (i64_w _).trans hj1
    have p1 : 0 ≤ j := by omega
    have q1 : j < l.length := by have := HM.out; omega
    have q3 : i < l.length := by have := HM.out; omega
    have hst : segF l x (l.length - 1 - i.toNat) i = if (rd_Point l j).f0 ≤ x then segF l x (l.length - 1 - j.toNat) j else i := by
      have := HM.out; rw [show l.length - 1 - i.toNat = (l.length - 1 - j.toNat) + 1 by omega, segF, hj]
    replace p1 := eq_true p1; replace q1 := eq_true q1; replace q3 := eq_true q3
    by_cases t3 : (rd_Point l j).f0 ≤ x
    · have HS := Aside0.mk (HS.out.trans (hst.trans (if_pos t3)))
      have HX := Aside0.mk t3
      have hjm : j < m := by
        have h1 := HM.out; have h2 := T2.out
        by_cases e : j = m
        · rw [e] at t3; omega
        · omega
      have HJM := Aside0.mk hjm
      clear hst hj hjm
      replace t3 := decide_eq_true t3
      go_wp2
      go_roundg (gk - 1)
      case measure => have := HJM.out; have := HJ.out; have := HI.out; omega
      case rel => exact ⟨j, (by first | rfl | (simp; done)), by have := HJ.out; have := HI.out; omega, HJM.out, by have := HJM.out; have := HJ.out; have := HI.out; omega, HX, HS, (by repeat (with_reducible first | exact HB | apply Up.alloc | apply Up.drewN | apply Up.drew))⟩
    · have HS := Aside0.mk (HS.out.trans (hst.trans (if_neg t3)))
      have HT3 := Aside0.mk t3
      clear hst hj
      replace t3 := decide_eq_false t3
      go_wp2
      have y0 := fun o => hx0 (wr.alloc o) j (HB.alloc o) (of_eq_true p1) (of_eq_true q1)
      have y1 := fun o => hx1 (wr.alloc o) j (HB.alloc o) (of_eq_true p1) (of_eq_true q1)
      have y2 := fun o => hx0 (wr.alloc o) i (HB.alloc o) hi (of_eq_true q3)
      have y3 := fun o => hx1 (wr.alloc o) i (HB.alloc o) hi (of_eq_true q3)
      have y4 := fun o o' => hx0 ((wr.alloc o).alloc o') j ((HB.alloc o).alloc o') (of_eq_true p1) (of_eq_true q1)
      have y5 := fun o o' => hx1 ((wr.alloc o).alloc o') j ((HB.alloc o).alloc o') (of_eq_true p1) (of_eq_true q1)
      have y6 := fun o o' => hx0 ((wr.alloc o).alloc o') i ((HB.alloc o).alloc o') hi (of_eq_true q3)
      have y7 := fun o o' => hx1 ((wr.alloc o).alloc o') i ((HB.alloc o).alloc o') hi (of_eq_true q3)
      have y8 := hx0 wr j HB (of_eq_true p1) (of_eq_true q1)
      have y9 := hx1 wr j HB (of_eq_true p1) (of_eq_true q1)
      have ya := hx0 wr i HB hi (of_eq_true q3)
      have yb := hx1 wr i HB hi (of_eq_true q3)
      clear hx0 hx1 hz0 hz1
      have HO := Aside0.mk (show lineV l x i = r1 by have := HV.out; rw [HS.out] at this; exact this)
      obtain ⟨dY, dX, P, D, q, g1, g2, g3, g4, GD, GP1, GP2, GQ, g5⟩ := line_facts HJ.out (by have := HPT.out i hi (of_eq_true q3); omega) (by have := HPT.out j (of_eq_true p1) (of_eq_true q1); omega) HX.out (by have := HT3.out; omega)
      replace HO := Aside0.mk (g5.trans HO.out)
      replace GD := Aside0.mk GD
      have GP := Aside0.mk (And.intro GP1 GP2)
      replace GQ := Aside0.mk GQ
      clear GP1 GP2 g5
      have g1' := (i64_w _).trans g1
      have g2' := (i64_w _).trans g2
      have g3' := (i64_w _).trans g3
      have g4' := (i64_w _).trans g4
      have HB := Aside0.mk HB
      go_region
      all_goals
        go_wp2
        go_quiet ((go_at_call 60; first | exact quiet_a (floor_c _ _ _ _ GQ.out GP.out.1 GP.out.2 GD.out) | exact Calls.quiet_of_same (floor_c _ _ _ _ GQ.out GP.out.1 GP.out.2 GD.out)))
        go_wp2
        go_ret2
        exact ⟨ret_ii HO.out rfl, (by repeat (with_reducible first | exact HB.out | apply Up.alloc | apply Up.drewN | apply Up.drew))⟩
set_option maxHeartbeats 8000000 in
theorem AtR_c (A0 : Option Addr) (c0 : Nat) (l : List SPoint) (x : Int) (w : World) (r1 r2 : Int) (h : atE l x = (r1, r2)) (hr0 : Kd.C kPoint w A0 l.length l) :
    Calls Try.prog 47 #[.slice A0 l.length c0, .int .i64 x] w fun e w' => e = .returned (.tuple #[.int .i64 r1, .int .i64 r2]) ∧ Up w w' := by
  have hu := Try.underlying66
  have HB := Up.refl w
  cases hp : ptsB l
  · obtain ⟨rfl, rfl⟩ : 0 = r1 ∧ 1 = r2 := by simpa [atE, hp] using h
    clear h
    go_enter Try.func47, Try.ntmps47
    go_wp2_with (go_at_call 61; refine (Points_c _ _ _ _ false hp hr0).mono ?_; rintro e w' ⟨rfl, hb⟩)
    go_ret2
    exact ⟨rfl, hb⟩
  obtain ⟨hn1, hn2, hpt⟩ := pts_at hp
  have HPT := Aside0.mk hpt
  have HN := Aside0.mk (And.intro hn1 hn2)
  obtain ⟨m, hm⟩ : ∃ m : Int, (l.length : Int) - 1 = m := ⟨_, rfl⟩
  have HM := Aside0.mk hm
  have hm1 : wrap64 ((l.length : Int) - 1) = m := by unfold wrap64; omega
  have hm2 : IntKind.i64.wrap ((l.length : Int) - 1) = m := (i64_w _).trans hm1
  have hv : (if x ≤ (rd_Point l 0).f0 then (rd_Point l 0).f1 else if (rd_Point l m).f0 ≤ x then (rd_Point l m).f1 else lineV l x (segF l x (l.length - 1 - (0 : Int).toNat) 0)) = r1 ∧ 0 = r2 := by
    simpa [atE, hp, atV, hm] using h
  obtain ⟨hv, rfl⟩ := hv
  have HV := Aside0.mk hv
  obtain ⟨ad, rfl⟩ : ∃ ad, A0 = some ad := by obtain ⟨ad, e, _⟩ := at_Point hr0 0 (by omega) (by omega); exact ⟨ad, e⟩
  have HR := Aside0.mk hr0
  obtain ⟨hx0, hx1⟩ := rx_Point hr0
  obtain ⟨hz0, hz1⟩ := rx0_Point hr0 (by omega)
  have p0 : 0 ≤ m := by omega
  have q0 : m < l.length := by omega
  have q1 : (0 : Int) < l.length := by omega
  have q2 : 0 < l.length := by omega
  replace p0 := eq_true p0; replace q0 := eq_true q0; replace q1 := eq_true q1; replace q2 := eq_true q2
  clear h hm hv hr0 hpt hn1 hn2
  go_enter Try.func47, Try.ntmps47
  by_cases t1 : x ≤ (rd_Point l 0).f0
  · have HO := Aside0.mk (show (rd_Point l 0).f1 = r1 by have := HV.out; rwa [if_pos t1] at this)
    replace t1 := decide_eq_true t1
    go_wp2_with (go_at_call 61; refine (Points_c _ _ _ _ true hp HR.out).mono ?_; rintro e w' ⟨rfl, hb⟩)
    go_ret2
    exact ⟨ret_ii HO.out rfl, (by repeat (with_reducible first | exact hb | apply Up.alloc | apply Up.drewN | apply Up.drew))⟩
  replace HV := Aside0.mk ((if_neg t1).symm.trans HV.out)
  by_cases t2 : (rd_Point l m).f0 ≤ x
  · have HO := Aside0.mk (show (rd_Point l m).f1 = r1 by have := HV.out; rwa [if_pos t2] at this)
    replace t1 := decide_eq_false t1
    replace t2 := decide_eq_true t2
    go_wp2_with (go_at_call 61; refine (Points_c _ _ _ _ true hp HR.out).mono ?_; rintro e w' ⟨rfl, hb⟩)
    go_ret2
    exact ⟨ret_ii HO.out rfl, (by repeat (with_reducible first | exact hb | apply Up.alloc | apply Up.drewN | apply Up.drew))⟩
  replace HV := Aside0.mk ((if_neg t2).symm.trans HV.out)
  have T1 := Aside0.mk t1
  have T2 := Aside0.mk t2
  replace t1 := decide_eq_false t1; replace t2 := decide_eq_false t2
  go_wp2_with (go_at_call 61; refine (Points_c _ _ _ _ true hp HR.out).mono ?_; rintro e w' ⟨rfl, hb⟩)
  clear HB
  have HS := Aside0.mk (rfl : segF l x (l.length - 1 - (0 : Int).toNat) 0 = segF l x (l.length - 1 - (0 : Int).toNat) 0)
  have hz : (rd_Point l 0).f0 ≤ x := by have := T1.out; omega
  have hm0 : (0 : Int) < m := by
    have h1 := HM.out; have h2 := T2.out; have h3 := HN.out.1
    by_cases e : m = 0
    · rw [e] at h2; omega
    · omega
  go_loopg [7] (l.length) (fun gk v7 w' => ∃ i : Int, v7 = .int .i64 i ∧ 0 ≤ i ∧ i < m ∧ m.toNat - i.toNat ≤ gk ∧ Aside0 ((rd_Point l i).f0 ≤ x) ∧ Aside0 (segF l x (l.length - 1 - (0 : Int).toNat) 0 = segF l x (l.length - 1 - i.toNat) i) ∧ Up w w')
  case atStart => exact ⟨0, rfl, by omega, hm0, by have := HM.out; omega, ⟨hz⟩, HS, (by repeat (with_reducible first | exact hb | apply Up.alloc | apply Up.drewN | apply Up.drew))⟩
  case round =>
    clear HS hb hz hm0
    obtain ⟨i, rfl, hi, him, hg, HX, HS, HB⟩ := hrel
    have HI := Aside0.mk (And.intro hi him)
    obtain ⟨j, hj⟩ : ∃ j : Int, i + 1 = j := ⟨_, rfl⟩
    have HJ := Aside0.mk hj
    have hj1 : wrap64 (i + 1) = j := by have := HM.out; have := HN.out; unfold wrap64; omega
    have hj2 : IntKind.i64.wrap (i + 1) = j := (i64_w _).trans hj1
    have p1 : 0 ≤ j := by omega
    have q1 : j < l.length := by have := HM.out; omega
    have q3 : i < l.length := by have := HM.out; omega
    have hst : segF l x (l.length - 1 - i.toNat) i = if (rd_Point l j).f0 ≤ x then segF l x (l.length - 1 - j.toNat) j else i := by
      have := HM.out; rw [show l.length - 1 - i.toNat = (l.length - 1 - j.toNat) + 1 by omega, segF, hj]
    replace p1 := eq_true p1; replace q1 := eq_true q1; replace q3 := eq_true q3
    by_cases t3 : (rd_Point l j).f0 ≤ x
    · have HS := Aside0.mk (HS.out.trans (hst.trans (if_pos t3)))
      have HX := Aside0.mk t3
      have hjm : j < m := by
        have h1 := HM.out; have h2 := T2.out
        by_cases e : j = m
        · rw [e] at t3; omega
        · omega
      have HJM := Aside0.mk hjm
      clear hst hj hjm
      replace t3 := decide_eq_true t3
      go_wp2
      go_roundg (gk - 1)
      case measure => have := HJM.out; have := HJ.out; have := HI.out; omega
      case rel => exact ⟨j, (by first | rfl | (simp; done)), by have := HJ.out; have := HI.out; omega, HJM.out, by have := HJM.out; have := HJ.out; have := HI.out; omega, HX, HS, (by repeat (with_reducible first | exact HB | apply Up.alloc | apply Up.drewN | apply Up.drew))⟩
    · have HS := Aside0.mk (HS.out.trans (hst.trans (if_neg t3)))
      have HT3 := Aside0.mk t3
      clear hst hj
      replace t3 := decide_eq_false t3
      go_wp2
      have y0 := fun o => hx0 (wr.alloc o) j (HB.alloc o) (of_eq_true p1) (of_eq_true q1)
      have y1 := fun o => hx1 (wr.alloc o) j (HB.alloc o) (of_eq_true p1) (of_eq_true q1)
      have y2 := fun o => hx0 (wr.alloc o) i (HB.alloc o) hi (of_eq_true q3)
      have y3 := fun o => hx1 (wr.alloc o) i (HB.alloc o) hi (of_eq_true q3)
      have y4 := fun o o' => hx0 ((wr.alloc o).alloc o') j ((HB.alloc o).alloc o') (of_eq_true p1) (of_eq_true q1)
      have y5 := fun o o' => hx1 ((wr.alloc o).alloc o') j ((HB.alloc o).alloc o') (of_eq_true p1) (of_eq_true q1)
      have y6 := fun o o' => hx0 ((wr.alloc o).alloc o') i ((HB.alloc o).alloc o') hi (of_eq_true q3)
      have y7 := fun o o' => hx1 ((wr.alloc o).alloc o') i ((HB.alloc o).alloc o') hi (of_eq_true q3)
      have y8 := hx0 wr j HB (of_eq_true p1) (of_eq_true q1)
      have y9 := hx1 wr j HB (of_eq_true p1) (of_eq_true q1)
      have ya := hx0 wr i HB hi (of_eq_true q3)
      have yb := hx1 wr i HB hi (of_eq_true q3)
      clear hx0 hx1 hz0 hz1
      have HO := Aside0.mk (show lineV l x i = r1 by have := HV.out; rw [HS.out] at this; exact this)
      obtain ⟨dY, dX, P, D, q, g1, g2, g3, g4, GD, GP1, GP2, GQ, g5⟩ := line_facts HJ.out (by have := HPT.out i hi (of_eq_true q3); omega) (by have := HPT.out j (of_eq_true p1) (of_eq_true q1); omega) HX.out (by have := HT3.out; omega)
      replace HO := Aside0.mk (g5.trans HO.out)
      replace GD := Aside0.mk GD
      have GP := Aside0.mk (And.intro GP1 GP2)
      replace GQ := Aside0.mk GQ
      clear GP1 GP2 g5
      have g1' := (i64_w _).trans g1
      have g2' := (i64_w _).trans g2
      have g3' := (i64_w _).trans g3
      have g4' := (i64_w _).trans g4
      have HB := Aside0.mk HB
      go_region
      all_goals
        go_wp2
        go_quiet ((go_at_call 62; first | exact quiet_a (Floor_c _ _ _ _ GQ.out GP.out.1 GP.out.2 GD.out) | exact Calls.quiet_of_same (Floor_c _ _ _ _ GQ.out GP.out.1 GP.out.2 GD.out)))
        go_wp2
        go_ret2
        exact ⟨ret_ii HO.out rfl, (by repeat (with_reducible first | exact HB.out | apply Up.alloc | apply Up.drewN | apply Up.drew))⟩

end Go.Proofs.Ytahcalhpigmbgaa.H
