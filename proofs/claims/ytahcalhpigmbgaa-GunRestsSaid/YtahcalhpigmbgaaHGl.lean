import Derived.Test.YtahcalhpigmbgaaHK
import Derived.Test.YtahcalhpigmbgaaHAt
namespace Go.Proofs.Ytahcalhpigmbgaa.H
open Go.RowKit Go.Proofs.YtahcalhpigmbgaaW.PrintWords Go.Proofs.YtahcalhpigmbgaaW.PrintLast Go.Proofs.YtahcalhpigmbgaaW.PrintMore
set_option linter.unusedVariables false
set_option linter.unusedSimpArgs false
/-! gun: in, falling; the reference's id, day -/
def inB (n lo hi : Int) : Bool := decide (lo ≤ n ∧ n ≤ hi)
theorem inB_lo {n lo hi : Int} (h : ¬ lo ≤ n) : inB n lo hi = false := by simp [inB, h]
theorem inB_hi {n lo hi : Int} (h : lo ≤ n) : inB n lo hi = decide (n ≤ hi) := by simp [inB, h]
set_option maxHeartbeats 4000000 in
theorem in_q (n lo hi : Int) (w : World) : Calls Try.prog 35 #[.int .i64 n, .int .i64 lo, .int .i64 hi] w fun e w' => e = .returned (.bool (inB n lo hi)) ∧ w' = w := by
  go_enter Try.func35, Try.ntmps35
  by_cases c : lo ≤ n
  · have E := Aside0.mk (inB_hi (hi := hi) c)
    replace c := decide_eq_true c
    go_wp2
    all_goals (go_ret; exact ⟨ret_b E.out.symm, rfl⟩)
  · have E := Aside0.mk (inB_lo (hi := hi) c)
    replace c := decide_eq_false c
    go_wp2
    all_goals (go_ret; exact ⟨ret_b E.out.symm, rfl⟩)
set_option maxHeartbeats 4000000 in
theorem id_q (n : Int) (w : World) : Calls Try.prog 41 #[.int .i64 n] w fun e w' => e = .returned (.bool (inB n 1 9999)) ∧ w' = w := by
  go_enter Try.func41, Try.ntmps41
  by_cases c : 1 ≤ n
  · have E := Aside0.mk (inB_hi (hi := 9999) c)
    replace c := decide_eq_true c
    go_wp2
    all_goals (go_ret; exact ⟨ret_b E.out.symm, rfl⟩)
  · have E := Aside0.mk (inB_lo (hi := 9999) c)
    replace c := decide_eq_false c
    go_wp2
    all_goals (go_ret; exact ⟨ret_b E.out.symm, rfl⟩)
set_option maxHeartbeats 4000000 in
theorem day_q (n : Int) (w : World) : Calls Try.prog 42 #[.int .i64 n] w fun e w' => e = .returned (.bool (inB n 0 86400)) ∧ w' = w := by
  go_enter Try.func42, Try.ntmps42
  by_cases c : 0 ≤ n
  · have E := Aside0.mk (inB_hi (hi := 86400) c)
    replace c := decide_eq_true c
    go_wp2
    all_goals (go_ret; exact ⟨ret_b E.out.symm, rfl⟩)
  · have E := Aside0.mk (inB_lo (hi := 86400) c)
    replace c := decide_eq_false c
    go_wp2
    all_goals (go_ret; exact ⟨ret_b E.out.symm, rfl⟩)
def fallP (l : List SPoint) (i : Int) : Bool := inB (rd_Point l i).f1 0 10000 && decide (0 < i → (rd_Point l i).f1 ≤ (rd_Point l (i - 1)).f1)
def fallB (l : List SPoint) : Bool := ptsB l && allF (fallP l) (l.length - (0 : Int).toNat) 0
theorem fallP_in {l : List SPoint} {i : Int} (h : inB (rd_Point l i).f1 0 10000 = false) : fallP l i = false := by simp [fallP, h]
theorem fallP_z {l : List SPoint} {i : Int} (h : inB (rd_Point l i).f1 0 10000 = true) (h0 : ¬ 0 < i) : fallP l i = true := by simp [fallP, h, h0]
theorem fallP_s {l : List SPoint} {i j : Int} (h : inB (rd_Point l i).f1 0 10000 = true) (hj : i - 1 = j) (h0 : 0 < i) : fallP l i = decide ((rd_Point l i).f1 ≤ (rd_Point l j).f1) := by simp [fallP, h, h0, hj]
set_option maxHeartbeats 8000000 in
theorem falling_c (A0 : Option Addr) (c0 : Nat) (l : List SPoint) (w : World) (r : Bool) (h : fallB l = r) (hr0 : Kd.C kPoint w A0 l.length l) :
    Calls Try.prog 37 #[.slice A0 l.length c0] w fun e w' => e = .returned (.bool r) ∧ Up w w' := by
  have hu := Try.underlying66
  have HB := Up.refl w
  cases hp : ptsB l
  · have hr : false = r := by simpa [fallB, hp] using h
    subst hr
    have HE := Aside0.mk (show atE l 0 = (0, 1) by simp [atE, hp])
    clear h hp
    go_enter Try.func37, Try.ntmps37
    go_wp2_with fail
    (with_reducible refine (At_c _ _ _ _ _ _ _ HE.out hr0).mono ?_)
    rintro e w' ⟨rfl, hb⟩
    go_wp2
    go_ret
    exact ⟨rfl, hb⟩
  obtain ⟨hn1, hn2, _⟩ := pts_at hp
  have HN := Aside0.mk (And.intro hn1 hn2)
  have HE := Aside0.mk (show atE l 0 = (atV l 0, 0) by simp [atE, hp])
  have HS := Aside0.mk (show allF (fallP l) (l.length - (0 : Int).toNat) 0 = r by simpa [fallB, hp] using h)
  have HR := Aside0.mk hr0
  obtain ⟨ad, rfl⟩ : ∃ ad, A0 = some ad := by obtain ⟨ad, e, _⟩ := at_Point hr0 0 (by omega) (by omega); exact ⟨ad, e⟩
  obtain ⟨hx0, hx1⟩ := rx_Point hr0
  clear h hp hr0 hn1 hn2
  go_enter Try.func37, Try.ntmps37
  go_wp2_with fail
  (with_reducible refine (At_c _ _ _ _ _ _ _ HE.out HR.out).mono ?_)
  rintro e w' ⟨rfl, hb⟩
  go_wp2
  go_loopg [16] (l.length) (fun gk v16 w' => ∃ i : Int, v16 = .int .i64 i ∧ 0 ≤ i ∧ l.length - i.toNat ≤ gk ∧ Aside0 (allF (fallP l) (l.length - i.toNat) i = r) ∧ Up w w')
  case atStart => exact ⟨0, rfl, by omega, by omega, HS, hb⟩
  case round =>
    clear HS HB hb
    obtain ⟨i, rfl, hi, hg, HS, HB⟩ := hrel
    have HI := Aside0.mk hi
    by_cases hlt : i < l.length
    · have HS := Aside0.mk ((allF_step hi hlt).symm.trans HS.out)
      have HL := Aside0.mk hlt
      have hlt2 := decide_eq_true hlt
      replace hi := eq_true hi; replace hlt := eq_true hlt
      cases t1 : inB (rd_Point l i).f1 0 10000
      · have HS := Aside0.mk (show false = r by have h := HS.out; rw [fallP_in t1] at h; exact h)
        go_wp2; go_quiet ((go_at_call 35; exact Calls.quiet_of_same (in_q _ _ _ _))); go_wp2
        go_ret
        exact ⟨ret_b HS.out, (by repeat (with_reducible first | exact HB | apply Up.alloc | apply Up.drewN | apply Up.drew))⟩
      by_cases t5 : 0 < i
      · obtain ⟨j, hj⟩ : ∃ j : Int, i - 1 = j := ⟨_, rfl⟩
        have hj1 : wrap64 (i - 1) = j := by have := HI.out; have := HL.out; have := HN.out; unfold wrap64; omega
        have hj2 : IntKind.i64.wrap (i - 1) = j := (i64_w _).trans hj1
        have p1 : 0 ≤ j := by omega
        have q1 : j < l.length := by have := HL.out; omega
        replace p1 := eq_true p1; replace q1 := eq_true q1
        by_cases t6 : (rd_Point l j).f1 < (rd_Point l i).f1
        · have HS := Aside0.mk (show false = r by have h := HS.out; rw [fallP_s t1 hj t5, decide_eq_false (by omega)] at h; exact h)
          clear hj
          replace t5 := decide_eq_true t5; replace t6 := decide_eq_true t6
          go_wp2; go_quiet ((go_at_call 35; exact Calls.quiet_of_same (in_q _ _ _ _))); go_wp2
          go_ret
          exact ⟨ret_b HS.out, (by repeat (with_reducible first | exact HB | apply Up.alloc | apply Up.drewN | apply Up.drew))⟩
        · have HS := Aside0.mk (show allF (fallP l) (l.length - (i + 1).toNat) (i + 1) = r by have h := HS.out; rw [fallP_s t1 hj t5, decide_eq_true (by omega)] at h; exact h)
          clear hj
          replace t5 := decide_eq_true t5
          replace t6 := decide_eq_false t6
          go_wp2; go_quiet ((go_at_call 35; exact Calls.quiet_of_same (in_q _ _ _ _))); go_wp2
          go_roundg (gk - 1)
          case measure => have := HL.out; have := HI.out; omega
          case rel => exact ⟨i + 1, (by first | rfl | (simp; done) | (have := HL.out; have := HI.out; have := HN.out; congr 1; unfold wrap64; omega)), by have := HI.out; omega, by have := HL.out; have := HI.out; omega, HS, (by repeat (with_reducible first | exact HB | apply Up.alloc | apply Up.drewN | apply Up.drew))⟩
      · have HS := Aside0.mk (show allF (fallP l) (l.length - (i + 1).toNat) (i + 1) = r by have h := HS.out; rw [fallP_z t1 t5] at h; exact h)
        replace t5 := decide_eq_false t5
        go_wp2; go_quiet ((go_at_call 35; exact Calls.quiet_of_same (in_q _ _ _ _))); go_wp2
        go_roundg (gk - 1)
        case measure => have := HL.out; have := HI.out; omega
        case rel => exact ⟨i + 1, (by first | rfl | (simp; done) | (have := HL.out; have := HI.out; have := HN.out; congr 1; unfold wrap64; omega)), by have := HI.out; omega, by have := HL.out; have := HI.out; omega, HS, (by repeat (with_reducible first | exact HB | apply Up.alloc | apply Up.drewN | apply Up.drew))⟩
    · have HS := Aside0.mk ((allF_end (p := fallP l) (i := i) (by omega : (l.length : Int) ≤ i)).symm.trans HS.out)
      replace hlt := decide_eq_false hlt
      go_wp2
      go_ret
      exact ⟨ret_b HS.out, HB⟩

end Go.Proofs.Ytahcalhpigmbgaa.H
