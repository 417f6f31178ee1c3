import Derived.Test.YtahcalhpigmbgaaHK
import Derived.Test.YtahcalhpigmbgaaHLo2
namespace Go.Proofs.Ytahcalhpigmbgaa.H
open Go.RowKit Go.Proofs.YtahcalhpigmbgaaW.PrintWords Go.Proofs.YtahcalhpigmbgaaW.PrintLast Go.Proofs.YtahcalhpigmbgaaW.PrintMore
set_option linter.unusedVariables false
set_option linter.unusedSimpArgs false
/-! plain laws: outputs fall in warmer weather -/
theorem fall_at {l : List SPoint} (h : fallB l = true) : ptsB l = true ∧ ∀ i : Int, 0 ≤ i → i < l.length → (0 ≤ (rd_Point l i).f1 ∧ (rd_Point l i).f1 ≤ 10000) ∧ (0 < i → (rd_Point l i).f1 ≤ (rd_Point l (i - 1)).f1) := by
  unfold fallB at h
  rw [Bool.and_eq_true] at h
  refine ⟨h.1, fun i h0 h1 => ?_⟩
  have := allF_at h.2 i h0 h1
  simp only [fallP, inB, Bool.and_eq_true, decide_eq_true_eq] at this
  refine ⟨by have := this.1; omega, fun hp => ?_⟩
  have h2 := this.2
  simp [hp] at h2
  exact h2
theorem fall_mono {l : List SPoint} (h : fallB l = true) : ∀ (d : Nat) (i : Int), 0 ≤ i → i + d < l.length → (rd_Point l (i + d)).f1 ≤ (rd_Point l i).f1 := by
  intro d
  induction d with
  | zero => intro i _ _; simp
  | succ d ih =>
    intro i h0 h1
    have e := ((fall_at h).2 (i + (d + 1 : Nat)) (by omega) h1).2 (by omega)
    rw [show i + ((d + 1 : Nat) : Int) - 1 = i + d by omega] at e
    exact Int.le_trans e (ih i h0 (by omega))
theorem fall_le {l : List SPoint} (h : fallB l = true) {i j : Int} (h0 : 0 ≤ i) (hij : i ≤ j) (h1 : j < l.length) : (rd_Point l j).f1 ≤ (rd_Point l i).f1 := by
  have := fall_mono h (j - i).toNat i h0 (by omega)
  rwa [show i + ((j - i).toNat : Int) = j by omega] at this
theorem segF_at (l : List SPoint) (x m : Int) (hm : x < (rd_Point l m).f0) : ∀ (d : Nat) (i : Int), i + d = m → (rd_Point l i).f0 ≤ x → i ≤ segF l x d i ∧ segF l x d i < m ∧ (rd_Point l (segF l x d i)).f0 ≤ x ∧ x < (rd_Point l (segF l x d i + 1)).f0 := by
  intro d
  induction d with
  | zero =>
    intro i h1 h2
    have : i = m := by omega
    subst this
    omega
  | succ d ih =>
    intro i h1 h2
    simp only [segF]
    split
    · rename_i h3
      obtain ⟨a1, a2, a3, a4⟩ := ih (i + 1) (by omega) h3
      exact ⟨by omega, a2, a3, a4⟩
    · rename_i h3
      exact ⟨by omega, by omega, h2, by omega⟩
theorem line_rng {l : List SPoint} {x i : Int} (h0 : (rd_Point l i).f0 ≤ x) (h1 : x < (rd_Point l (i + 1)).f0) (hy : (rd_Point l (i + 1)).f1 ≤ (rd_Point l i).f1) : (rd_Point l (i + 1)).f1 ≤ lineV l x i ∧ lineV l x i ≤ (rd_Point l i).f1 := by
  unfold lineV
  obtain ⟨c, hc⟩ : ∃ c, (rd_Point l i).f1 - (rd_Point l (i + 1)).f1 = c := ⟨_, rfl⟩
  obtain ⟨e, he⟩ : ∃ e, x - (rd_Point l i).f0 = e := ⟨_, rfl⟩
  obtain ⟨D, hD⟩ : ∃ D, (rd_Point l (i + 1)).f0 - (rd_Point l i).f0 = D := ⟨_, rfl⟩
  rw [show (rd_Point l (i + 1)).f1 - (rd_Point l i).f1 = -c by omega, he, hD]
  have p1 : 0 ≤ c * e := Int.mul_nonneg (by omega) (by omega)
  have p2 : c * e ≤ c * D := Int.mul_le_mul_of_nonneg_left (by omega) (by omega)
  have p3 : -c ≤ -c * e / D := (Int.le_ediv_iff_mul_le (by omega)).2 (by rw [Int.neg_mul, Int.neg_mul]; omega)
  have p4 : -c * e / D < 1 := (Int.ediv_lt_iff_lt_mul (by omega)).2 (by rw [Int.neg_mul]; omega)
  omega
theorem line_mono {l : List SPoint} {x y i : Int} (h1 : (rd_Point l i).f0 < (rd_Point l (i + 1)).f0) (hxy : x ≤ y) (hy : (rd_Point l (i + 1)).f1 ≤ (rd_Point l i).f1) : lineV l y i ≤ lineV l x i := by
  unfold lineV
  have p : ((rd_Point l (i + 1)).f1 - (rd_Point l i).f1) * (y - (rd_Point l i).f0) ≤ ((rd_Point l (i + 1)).f1 - (rd_Point l i).f1) * (x - (rd_Point l i).f0) := Int.mul_le_mul_of_nonpos_left (by omega) (by omega)
  have := Int.ediv_le_ediv (c := (rd_Point l (i + 1)).f0 - (rd_Point l i).f0) (by omega) p
  omega
theorem atV_in {l : List SPoint} (h : fallB l = true) {x : Int} (h1 : ¬ x ≤ (rd_Point l 0).f0) (h2 : ¬ (rd_Point l ((l.length : Int) - 1)).f0 ≤ x) :
    ∃ i, segF l x (l.length - 1 - (0 : Int).toNat) 0 = i ∧ 0 ≤ i ∧ i + 1 < l.length ∧ (rd_Point l i).f0 ≤ x ∧ x < (rd_Point l (i + 1)).f0 := by
  obtain ⟨hn, _, _⟩ := pts_at (fall_at h).1
  obtain ⟨a1, a2, a3, a4⟩ := segF_at l x ((l.length : Int) - 1) (by omega) (l.length - 1 - (0 : Int).toNat) 0 (by simp; omega) (by omega)
  exact ⟨_, rfl, a1, by omega, a3, a4⟩
theorem atV_rng {l : List SPoint} (h : fallB l = true) (x : Int) : 0 ≤ atV l x ∧ (rd_Point l ((l.length : Int) - 1)).f1 ≤ atV l x ∧ atV l x ≤ (rd_Point l 0).f1 := by
  obtain ⟨hn, _, _⟩ := pts_at (fall_at h).1
  have hz := ((fall_at h).2 ((l.length : Int) - 1) (by omega) (by omega)).1
  have hl := fall_le h (i := 0) (j := (l.length : Int) - 1) (by omega) (by omega) (by omega)
  unfold atV
  split
  · omega
  · split
    · omega
    · rename_i h1 h2
      obtain ⟨i, hi, i0, i1, i2, i3⟩ := atV_in h h1 h2
      rw [hi]
      have a := line_rng i2 i3 (fall_le h i0 (by omega) i1)
      have b := fall_le h (i := i + 1) (j := (l.length : Int) - 1) (by omega) (by omega) (by omega)
      have c := fall_le h (i := 0) (j := i) (by omega) (by omega) (by omega)
      omega
theorem atV_mono {l : List SPoint} (h : fallB l = true) {x y : Int} (hxy : x ≤ y) : atV l y ≤ atV l x := by
  have ry := atV_rng h y
  have rx := atV_rng h x
  by_cases h1 : x ≤ (rd_Point l 0).f0
  · rw [show atV l x = (rd_Point l 0).f1 from if_pos h1]; exact ry.2.2
  by_cases h2 : (rd_Point l ((l.length : Int) - 1)).f0 ≤ y
  · rw [show atV l y = (rd_Point l ((l.length : Int) - 1)).f1 by unfold atV; rw [if_neg (by omega), if_pos h2]]; exact rx.2.1
  obtain ⟨hn, _, hpt⟩ := pts_at (fall_at h).1
  obtain ⟨i, hi, i0, i1, i2, i3⟩ := atV_in h h1 (by omega)
  obtain ⟨j, hj, j0, j1, j2, j3⟩ := atV_in h (x := y) (by omega) h2
  rw [show atV l x = lineV l x i by unfold atV; rw [if_neg h1, if_neg (by omega), hi], show atV l y = lineV l y j by unfold atV; rw [if_neg (by omega), if_neg h2, hj]]
  have ri := line_rng i2 i3 (fall_le h i0 (by omega) i1)
  have rj := line_rng j2 j3 (fall_le h j0 (by omega) j1)
  rcases Int.lt_or_le i j with hij | hij
  · have := fall_le h (i := i + 1) (j := j) (by omega) (by omega) (by omega)
    omega
  · by_cases e : i = j
    · subst e
      exact line_mono (by omega) hxy (fall_le h i0 (by omega) i1)
    · exfalso
      have hx : ∀ (d : Nat) (k : Int), 0 ≤ k → k + d < l.length → (rd_Point l k).f0 ≤ (rd_Point l (k + d)).f0 := by
        intro d
        induction d with
        | zero => intro k _ _; simp
        | succ d ih =>
          intro k k0 k1
          have a := (hpt (k + (d + 1 : Nat)) (by omega) k1).2.2.2.2 (by omega)
          rw [show k + ((d + 1 : Nat) : Int) - 1 = k + d by omega] at a
          have b := ih k k0 (by omega)
          omega
      have := hx (i - (j + 1)).toNat (j + 1) (by omega) (by omega)
      rw [show j + 1 + ((i - (j + 1)).toNat : Int) = i by omega] at this
      omega

end Go.Proofs.Ytahcalhpigmbgaa.H
