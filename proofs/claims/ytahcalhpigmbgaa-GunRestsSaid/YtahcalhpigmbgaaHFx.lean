import Derived.Test.YtahcalhpigmbgaaHK
namespace Go.Proofs.Ytahcalhpigmbgaa.H
open Go.RowKit Go.Proofs.YtahcalhpigmbgaaW.PrintWords Go.Proofs.YtahcalhpigmbgaaW.PrintLast Go.Proofs.YtahcalhpigmbgaaW.PrintMore
set_option linter.unusedVariables false
set_option linter.unusedSimpArgs false
/-! fixed (layer 1): points, floor, At; the reference's Within, Points, Floor, At -/
def okP (l : List SPoint) (i : Int) : Bool :=
  decide (-1000000000 ≤ (rd_Point l i).f0 ∧ (rd_Point l i).f0 ≤ 1000000000 ∧ -1000000000 ≤ (rd_Point l i).f1 ∧ (rd_Point l i).f1 ≤ 1000000000 ∧ (0 < i → (rd_Point l (i - 1)).f0 < (rd_Point l i).f0))
def ptsB (l : List SPoint) : Bool := decide (1 ≤ l.length ∧ l.length ≤ 64) && allF (okP l) (l.length - (0 : Int).toNat) 0
theorem floor_lem (a b : Int) (hb : 0 < b) : a / b = (if Int.tmod a b < 0 then Int.tdiv a b - 1 else Int.tdiv a b) := by
  have e := Int.mul_tdiv_add_tmod a b
  have l1 : Int.tmod a b < b := Int.tmod_lt_of_pos a hb
  have l2 : -b < Int.tmod a b := by
    have h := Int.tmod_lt_of_pos (-a) hb
    rw [Int.neg_tmod] at h
    omega
  split
  · rename_i h
    exact ((Int.ediv_emod_unique hb).2 ⟨(by rw [Int.mul_sub, Int.mul_one]; omega : (a.tmod b + b) + b * (a.tdiv b - 1) = a), by omega, by omega⟩).1
  · rename_i h
    exact ((Int.ediv_emod_unique hb).2 ⟨(by omega : (a.tmod b) + b * (a.tdiv b) = a), by omega, by omega⟩).1
theorem div_bd (a b : Int) (h0 : -4611686018427387904 ≤ a) (h1 : a ≤ 4611686018427387904) (hb : 0 < b) : -4611686018427387904 ≤ a / b ∧ a / b ≤ 4611686018427387904 := by
  have e := Int.mul_ediv_add_emod a b
  have l0 := Int.emod_nonneg a (by omega : b ≠ 0)
  have l1 := Int.emod_lt_of_pos a hb
  constructor
  · apply (Int.le_ediv_iff_mul_le hb).2; have : b * 4611686018427387904 ≥ 1 * 4611686018427387904 := Int.mul_le_mul_of_nonneg_right (by omega) (by omega); omega
  · have : a / b < 4611686018427387904 + 1 := by
      apply (Int.ediv_lt_iff_lt_mul hb).2; have : b * (4611686018427387904 + 1) ≥ 1 * (4611686018427387904 + 1) := Int.mul_le_mul_of_nonneg_right (by omega) (by omega); omega
    omega
set_option maxHeartbeats 4000000 in
theorem floor_c (a b r : Int) (w : World) (h : a / b = r) (h0 : -4611686018427387904 ≤ a) (h1 : a ≤ 4611686018427387904) (hb : 0 < b) :
    Calls Try.prog 60 #[.int .i64 a, .int .i64 b] w fun e w' => e = .returned (.int .i64 r) ∧ w' = w := by
  have F := Aside0.mk (floor_lem a b hb)
  have D := Aside0.mk (div_bd a b h0 h1 hb)
  have R := Aside0.mk h
  clear h
  go_enter Try.func60, Try.ntmps60
  by_cases c : Int.tmod a b < 0
  · have E : Aside0 (wrap64 (Int.tdiv a b - 1) = r) := ⟨by have f := F.out; rw [if_pos c] at f; have := D.out; rw [← R.out]; rw [f] at this ⊢; unfold wrap64; omega⟩
    replace c := decide_eq_true c
    go_wp2
    go_ret
    exact ⟨ret_i E.out, rfl⟩
  · have E : Aside0 (Int.tdiv a b = r) := ⟨by have f := F.out; rw [if_neg c] at f; rw [← R.out]; exact f.symm⟩
    replace c := decide_eq_false c
    go_wp2
    go_ret
    exact ⟨ret_i E.out, rfl⟩
set_option maxHeartbeats 4000000 in
theorem Floor_c (a b r : Int) (w : World) (h : a / b = r) (h0 : -4611686018427387904 ≤ a) (h1 : a ≤ 4611686018427387904) (hb : 0 < b) :
    Calls Try.prog 62 #[.int .i64 a, .int .i64 b] w fun e w' => e = .returned (.int .i64 r) ∧ w' = w := by
  have F := Aside0.mk (floor_lem a b hb)
  have D := Aside0.mk (div_bd a b h0 h1 hb)
  have R := Aside0.mk h
  clear h
  go_enter Try.func62, Try.ntmps62
  by_cases c : Int.tmod a b < 0
  · have E : Aside0 (wrap64 (Int.tdiv a b - 1) = r) := ⟨by have f := F.out; rw [if_pos c] at f; have := D.out; rw [← R.out]; rw [f] at this ⊢; unfold wrap64; omega⟩
    replace c := decide_eq_true c
    go_wp2
    go_ret
    exact ⟨ret_i E.out, rfl⟩
  · have E : Aside0 (Int.tdiv a b = r) := ⟨by have f := F.out; rw [if_neg c] at f; rw [← R.out]; exact f.symm⟩
    replace c := decide_eq_false c
    go_wp2
    go_ret
    exact ⟨ret_i E.out, rfl⟩
def withinB (a b : Int) : Bool := decide (-b ≤ a ∧ a ≤ b)
set_option maxHeartbeats 4000000 in
theorem Within_q (a b : Int) (w : World) (hb : 0 ≤ b) (hb' : b ≤ 4611686018427387904) :
    Calls Try.prog 64 #[.int .i64 a, .int .i64 b] w fun e w' => e = .returned (.bool (withinB a b)) ∧ w' = w := by
  go_enter Try.func64, Try.ntmps64
  by_cases c : -b ≤ a
  · have E : Aside0 (withinB a b = decide (a ≤ b)) := ⟨by simp [withinB, c]⟩
    replace c := decide_eq_true c
    go_wp2
    all_goals (go_ret; exact ⟨ret_b E.out.symm, rfl⟩)
  · have E : Aside0 (withinB a b = false) := ⟨by simp [withinB, c]⟩
    replace c := decide_eq_false c
    go_wp2
    all_goals (go_ret; exact ⟨ret_b E.out.symm, rfl⟩)
set_option maxHeartbeats 8000000 in
theorem points_c (A0 : Option Addr) (c0 : Nat) (l : List SPoint) (w : World) (r : Bool) (h : ptsB l = r) (hr0 : Kd.C kPoint w A0 l.length l) :
    Calls Try.prog 59 #[.slice A0 l.length c0] w fun e w' => e = .returned (.bool r) ∧ Up w w' := by
  subst h
  have hu := Try.underlying66
  have HB := Up.refl w
  go_enter Try.func59, Try.ntmps59
  by_cases h1 : l.length < 1
  · go_wp2
    go_ret
    exact ⟨ret_b (by simp [ptsB]; omega), HB⟩
  by_cases h2 : 64 < l.length
  · go_wp2
    go_ret
    exact ⟨ret_b (by simp [ptsB]; omega), HB⟩
  have HS := Aside0.mk (show ptsB l = allF (okP l) (l.length - (0 : Int).toNat) 0 by simp [ptsB]; omega)
  obtain ⟨ad, rfl⟩ : ∃ ad, A0 = some ad := by obtain ⟨ad, e, _⟩ := at_Point hr0 0 (by omega) (by omega); exact ⟨ad, e⟩
  obtain ⟨hx0, hx1⟩ := rx_Point hr0
  clear hr0
  go_wp2
  go_loopg [15] (l.length) (fun gk v15 w' => ∃ i : Int, v15 = .int .i64 i ∧ 0 ≤ i ∧ l.length - i.toNat ≤ gk ∧ Aside0 (ptsB l = allF (okP l) (l.length - i.toNat) i) ∧ Up w w')
  case atStart => exact ⟨0, rfl, by omega, by omega, HS, HB⟩
  case round =>
    clear HS HB
    obtain ⟨i, rfl, hi, hg, HS, HB⟩ := hrel
    have HI := Aside0.mk hi
    by_cases hlt : i < l.length
    · have HS := Aside0.mk (HS.out.trans (allF_step hi hlt))
      have HL := Aside0.mk hlt
      have hlt2 := decide_eq_true hlt
      replace hi := eq_true hi; replace hlt := eq_true hlt
      by_cases t1 : (rd_Point l i).f0 < -1000000000
      rotate_left
      by_cases t2 : 1000000000 < (rd_Point l i).f0
      rotate_left
      by_cases t3 : (rd_Point l i).f1 < -1000000000
      rotate_left
      by_cases t4 : 1000000000 < (rd_Point l i).f1
      rotate_left
      by_cases t5 : 0 < i
      · obtain ⟨j, hj⟩ : ∃ j : Int, i - 1 = j := ⟨_, rfl⟩
        have hj1 : wrap64 (i - 1) = j := by have := HI.out; have := HL.out; unfold wrap64; omega
        have hj2 : IntKind.i64.wrap (i - 1) = j := (i64_w _).trans hj1
        have p1 : 0 ≤ j := by omega
        have q1 : j < l.length := by have := HL.out; omega
        replace p1 := eq_true p1; replace q1 := eq_true q1
        by_cases t6 : (rd_Point l i).f0 ≤ (rd_Point l j).f0
        · have HO := Aside0.mk (show okP l i = false by simp [okP, hj]; omega)
          clear hj
          replace t1 := decide_eq_false t1; replace t2 := decide_eq_false t2; replace t3 := decide_eq_false t3; replace t4 := decide_eq_false t4; replace t5 := decide_eq_true t5; replace t6 := decide_eq_true t6
          go_wp2; go_quiet (fail); go_wp2
          go_ret
          exact ⟨ret_b (by rw [HS.out, HO.out]; rfl), (by repeat (with_reducible first | exact HB | apply Up.alloc | apply Up.drewN | apply Up.drew))⟩
        · have HO := Aside0.mk (show okP l i = true by simp [okP, hj]; omega)
          clear hj
          replace t1 := decide_eq_false t1; replace t2 := decide_eq_false t2; replace t3 := decide_eq_false t3; replace t4 := decide_eq_false t4; replace t6 := decide_eq_false t6; replace t5 := decide_eq_true t5
          go_wp2; go_quiet (fail); go_wp2
          go_roundg (gk - 1)
          case measure => have := HL.out; have := HI.out; omega
          case rel => exact ⟨i + 1, (by first | rfl | (simp; done) | (have := HL.out; have := HI.out; congr 1; unfold wrap64; omega)), by have := HI.out; omega, by have := HL.out; have := HI.out; omega, ⟨by rw [HS.out, HO.out]; rfl⟩, (by repeat (with_reducible first | exact HB | apply Up.alloc | apply Up.drewN | apply Up.drew))⟩
      · have HO := Aside0.mk (show okP l i = true by simp [okP]; omega)
        replace t1 := decide_eq_false t1; replace t2 := decide_eq_false t2; replace t3 := decide_eq_false t3; replace t4 := decide_eq_false t4; replace t5 := decide_eq_false t5
        go_wp2; go_quiet (fail); go_wp2
        go_roundg (gk - 1)
        case measure => have := HL.out; have := HI.out; omega
        case rel => exact ⟨i + 1, (by first | rfl | (simp; done) | (have := HL.out; have := HI.out; congr 1; unfold wrap64; omega)), by have := HI.out; omega, by have := HL.out; have := HI.out; omega, ⟨by rw [HS.out, HO.out]; rfl⟩, (by repeat (with_reducible first | exact HB | apply Up.alloc | apply Up.drewN | apply Up.drew))⟩
      all_goals
        have HO := Aside0.mk (show okP l i = false by simp [okP]; omega)
        (first | replace t1 := decide_eq_false t1 | replace t1 := decide_eq_true t1 | skip); (first | replace t2 := decide_eq_false t2 | replace t2 := decide_eq_true t2 | skip); (first | replace t3 := decide_eq_false t3 | replace t3 := decide_eq_true t3 | skip); (first | replace t4 := decide_eq_false t4 | replace t4 := decide_eq_true t4 | skip)
        go_wp2; go_quiet (fail); go_wp2
        go_ret
        exact ⟨ret_b (by rw [HS.out, HO.out]; rfl), (by repeat (with_reducible first | exact HB | apply Up.alloc | apply Up.drewN | apply Up.drew))⟩
    · have HO := Aside0.mk (allF_end (p := okP l) (i := i) (by omega : (l.length : Int) ≤ i))
      replace hlt := decide_eq_false hlt
      go_wp2
      go_ret
      exact ⟨ret_b (by rw [HS.out, HO.out]), HB⟩

set_option maxHeartbeats 8000000 in
theorem Points_c (A0 : Option Addr) (c0 : Nat) (l : List SPoint) (w : World) (r : Bool) (h : ptsB l = r) (hr0 : Kd.C kPoint w A0 l.length l) :
    Calls Try.prog 61 #[.slice A0 l.length c0] w fun e w' => e = .returned (.bool r) ∧ Up w w' := by
  subst h
  have HB := Up.refl w
  go_enter Try.func61, Try.ntmps61
  by_cases h1 : l.length < 1
  · go_wp2
    go_ret
    exact ⟨ret_b (by simp [ptsB]; omega), HB⟩
  by_cases h2 : 64 < l.length
  · go_wp2
    go_ret
    exact ⟨ret_b (by simp [ptsB]; omega), HB⟩
  have HS := Aside0.mk (show ptsB l = allF (okP l) (l.length - (0 : Int).toNat) 0 by simp [ptsB]; omega)
  obtain ⟨ad, rfl⟩ : ∃ ad, A0 = some ad := by obtain ⟨ad, e, _⟩ := at_Point hr0 0 (by omega) (by omega); exact ⟨ad, e⟩
  obtain ⟨hx0, hx1⟩ := rx_Point hr0
  clear hr0
  go_wp2
  go_loopg [3] (l.length) (fun gk v3 w' => ∃ i : Int, v3 = .int .i64 i ∧ 0 ≤ i ∧ l.length - i.toNat ≤ gk ∧ Aside0 (ptsB l = allF (okP l) (l.length - i.toNat) i) ∧ Up w w')
  case atStart => exact ⟨0, rfl, by omega, by omega, HS, HB⟩
  case round =>
    clear HS HB
    obtain ⟨i, rfl, hi, hg, HS, HB⟩ := hrel
    have HI := Aside0.mk hi
    by_cases hlt : i < l.length
    · have HS := Aside0.mk (HS.out.trans (allF_step hi hlt))
      have HL := Aside0.mk hlt
      have hlt2 := decide_eq_true hlt
      replace hi := eq_true hi; replace hlt := eq_true hlt
      cases t1 : withinB (rd_Point l i).f0 1000000000
      rotate_left
      cases t2 : withinB (rd_Point l i).f1 1000000000
      rotate_left
      by_cases t5 : 0 < i
      · obtain ⟨j, hj⟩ : ∃ j : Int, i - 1 = j := ⟨_, rfl⟩
        have hj1 : wrap64 (i - 1) = j := by have := HI.out; have := HL.out; unfold wrap64; omega
        have hj2 : IntKind.i64.wrap (i - 1) = j := (i64_w _).trans hj1
        have p1 : 0 ≤ j := by omega
        have q1 : j < l.length := by have := HL.out; omega
        replace p1 := eq_true p1; replace q1 := eq_true q1
        by_cases t6 : (rd_Point l i).f0 ≤ (rd_Point l j).f0
        · have HO := Aside0.mk (show okP l i = false by simp [okP, hj]; omega)
          clear hj
          replace t5 := decide_eq_true t5; replace t6 := decide_eq_true t6
          go_wp2; go_quiet ((go_at_call 64; exact Calls.quiet_of_same (Within_q _ _ _ (by omega) (by omega)))); go_wp2
          go_ret
          exact ⟨ret_b (by rw [HS.out, HO.out]; rfl), (by repeat (with_reducible first | exact HB | apply Up.alloc | apply Up.drewN | apply Up.drew))⟩
        · have HO := Aside0.mk (show okP l i = true by simp [withinB] at t1 t2; simp [okP, hj]; omega)
          clear hj
          replace t6 := decide_eq_false t6; replace t5 := decide_eq_true t5
          go_wp2; go_quiet ((go_at_call 64; exact Calls.quiet_of_same (Within_q _ _ _ (by omega) (by omega)))); go_wp2
          go_roundg (gk - 1)
          case measure => have := HL.out; have := HI.out; omega
          case rel => exact ⟨i + 1, (by first | rfl | (simp; done) | (have := HL.out; have := HI.out; congr 1; unfold wrap64; omega)), by have := HI.out; omega, by have := HL.out; have := HI.out; omega, ⟨by rw [HS.out, HO.out]; rfl⟩, (by repeat (with_reducible first | exact HB | apply Up.alloc | apply Up.drewN | apply Up.drew))⟩
      · have HO := Aside0.mk (show okP l i = true by simp [withinB] at t1 t2; simp [okP]; omega)
        replace t5 := decide_eq_false t5
        go_wp2; go_quiet ((go_at_call 64; exact Calls.quiet_of_same (Within_q _ _ _ (by omega) (by omega)))); go_wp2
        go_roundg (gk - 1)
        case measure => have := HL.out; have := HI.out; omega
        case rel => exact ⟨i + 1, (by first | rfl | (simp; done) | (have := HL.out; have := HI.out; congr 1; unfold wrap64; omega)), by have := HI.out; omega, by have := HL.out; have := HI.out; omega, ⟨by rw [HS.out, HO.out]; rfl⟩, (by repeat (with_reducible first | exact HB | apply Up.alloc | apply Up.drewN | apply Up.drew))⟩
      all_goals
        have HO := Aside0.mk (show okP l i = false by (try simp [withinB] at t1); (try simp [withinB] at t2); simp [okP]; omega)
        go_wp2; go_quiet ((go_at_call 64; exact Calls.quiet_of_same (Within_q _ _ _ (by omega) (by omega)))); go_wp2
        go_ret
        exact ⟨ret_b (by rw [HS.out, HO.out]; rfl), (by repeat (with_reducible first | exact HB | apply Up.alloc | apply Up.drewN | apply Up.drew))⟩
    · have HO := Aside0.mk (allF_end (p := okP l) (i := i) (by omega : (l.length : Int) ≤ i))
      replace hlt := decide_eq_false hlt
      go_wp2
      go_ret
      exact ⟨ret_b (by rw [HS.out, HO.out]), HB⟩

end Go.Proofs.Ytahcalhpigmbgaa.H
