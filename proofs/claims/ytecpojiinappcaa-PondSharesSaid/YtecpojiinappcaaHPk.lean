import Derived.Test.YtecpojiinappcaaHK
import Derived.Test.YtecpojiinappcaaHPj
namespace Go.Proofs.Ytecpojiinappcaa.H
open Go.RowKit Go.Proofs.YtecpojiinappcaaW.PrintWords Go.Proofs.YtecpojiinappcaaW.PrintLast Go.Proofs.YtecpojiinappcaaW.PrintMore
set_option linter.unusedVariables false
set_option linter.unusedSimpArgs false
/-! plain laws: the stable sort of the indices by the rests; one more for each of the first of them is one more for the greatest rest, so often -/
def Ltr (R : Int → Int) (x y : Int) : Prop := R y < R x ∨ (R x = R y ∧ x < y)
structure Prm (n : Nat) (xs : List Int) : Prop where
  len : xs.length = n
  rng : ∀ p : Int, 0 ≤ p → p < n → 0 ≤ rd_Int xs p ∧ rd_Int xs p < n
  sur : ∀ v : Int, 0 ≤ v → v < n → ∃ p : Int, 0 ≤ p ∧ p < n ∧ rd_Int xs p = v
theorem Prm.swap {n : Nat} {xs : List Int} (h : Prm n xs) {j k : Int} (j0 : 0 ≤ j) (j1 : j < n) (k0 : 0 ≤ k) (k1 : k < n) : Prm n (swapI xs j k) := by
  have hr : ∀ p : Int, 0 ≤ p → rd_Int (swapI xs j k) p = if p = k then rd_Int xs j else if p = j then rd_Int xs k else rd_Int xs p := fun p h0 => rdI_swap j0 (by rw [h.len]; exact j1) k0 (by rw [h.len]; exact k1) h0
  refine ⟨by rw [← h.len]; simp [swapI], fun p h0 h1 => ?_, fun v h0 h1 => ?_⟩
  · rw [hr p h0]
    split
    · exact h.rng j j0 j1
    · split
      · exact h.rng k k0 k1
      · exact h.rng p h0 h1
  · obtain ⟨p, p0, p1, e⟩ := h.sur v h0 h1
    by_cases e1 : p = j
    · exact ⟨k, k0, k1, by rw [hr k k0, if_pos rfl, ← e1]; exact e⟩
    · by_cases e2 : p = k
      · by_cases e3 : j = k
        · exact absurd (e2.trans e3.symm) e1
        · exact ⟨j, j0, j1, by rw [hr j j0, if_neg e3, if_pos rfl, ← e2]; exact e⟩
      · exact ⟨p, p0, p1, by rw [hr p p0, if_neg e2, if_neg e1]; exact e⟩
theorem ins_law {c : Int → Int → Int} {R : Int → Int} {n : Nat} (hc : ∀ x y : Int, 0 ≤ x → x < n → 0 ≤ y → y < n → (c x y < 0 ↔ R y < R x)) {i : Int} (hin : i < n) : ∀ (d : Nat) (j : Int) (xs : List Int), d = j.toNat → 0 ≤ j → j ≤ i → Prm n xs →
    (∀ p q : Int, 0 ≤ p → p < q → q ≤ i → p ≠ j → q ≠ j → Ltr R (rd_Int xs p) (rd_Int xs q)) →
    (∀ q : Int, j < q → q ≤ i → Ltr R (rd_Int xs j) (rd_Int xs q)) →
    (∀ p : Int, 0 ≤ p → p ≤ i → p ≠ j → rd_Int xs p < rd_Int xs j) →
    (∀ p : Int, 0 ≤ p → p ≤ i → rd_Int xs p ≤ i) →
    (∀ p : Int, i < p → p < n → rd_Int xs p = p) →
    Prm n (insI c d j xs) ∧ (∀ p q : Int, 0 ≤ p → p < q → q ≤ i → Ltr R (rd_Int (insI c d j xs) p) (rd_Int (insI c d j xs) q)) ∧ (∀ p : Int, 0 ≤ p → p ≤ i → rd_Int (insI c d j xs) p ≤ i) ∧ (∀ p : Int, i < p → p < n → rd_Int (insI c d j xs) p = p)
  | 0, j, xs, hd, hj0, hji, hp, srt, rgt, val, pre, tl => by
    refine ⟨hp, fun p q p0 pq qi => ?_, pre, tl⟩
    by_cases e : p = j
    · rw [e]; exact rgt q (by omega) qi
    · exact srt p q p0 pq qi e (by omega)
  | d + 1, j, xs, hd, hj0, hji, hp, srt, rgt, val, pre, tl => by
    have j1 : j < n := by omega
    have k0 : 0 ≤ j - 1 := by omega
    have k1 : j - 1 < n := by omega
    have hcc := hc (rd_Int xs j) (rd_Int xs (j - 1)) (hp.rng j hj0 j1).1 (hp.rng j hj0 j1).2 (hp.rng (j - 1) k0 k1).1 (hp.rng (j - 1) k0 k1).2
    rw [insI]
    by_cases hcmp : c (rd_Int xs j) (rd_Int xs (j - 1)) < 0
    · rw [if_pos hcmp]
      have hR := hcc.1 hcmp
      have hr : ∀ p : Int, 0 ≤ p → rd_Int (swapI xs j (j - 1)) p = if p = j - 1 then rd_Int xs j else if p = j then rd_Int xs (j - 1) else rd_Int xs p := fun p h0 => rdI_swap hj0 (by rw [hp.len]; exact j1) k0 (by rw [hp.len]; exact k1) h0
      refine ins_law hc hin d (j - 1) (swapI xs j (j - 1)) (by omega) k0 (by omega) (hp.swap hj0 j1 k0 k1) ?_ ?_ ?_ ?_ ?_
      · intro p q p0 pq qi pj qj
        rw [hr p p0, hr q (by omega), if_neg pj, if_neg qj]
        by_cases e1 : p = j
        · rw [if_pos e1, if_neg (by omega)]; exact srt (j - 1) q k0 (by omega) qi (by omega) (by omega)
        · rw [if_neg e1]
          by_cases e2 : q = j
          · rw [if_pos e2]; exact srt p (j - 1) p0 (by omega) (by omega) e1 (by omega)
          · rw [if_neg e2]; exact srt p q p0 pq qi e1 e2
      · intro q q0 qi
        rw [hr (j - 1) k0, hr q (by omega), if_pos rfl, if_neg (by omega)]
        by_cases e2 : q = j
        · rw [if_pos e2]; exact .inl hR
        · rw [if_neg e2]; exact rgt q (by omega) qi
      · intro p p0 pi pj
        rw [hr (j - 1) k0, hr p p0, if_pos rfl, if_neg pj]
        by_cases e1 : p = j
        · rw [if_pos e1]; exact val (j - 1) k0 (by omega) (by omega)
        · rw [if_neg e1]; exact val p p0 pi e1
      · intro p p0 pi
        rw [hr p p0]
        split
        · exact pre j hj0 hji
        · split
          · exact pre (j - 1) k0 (by omega)
          · exact pre p p0 pi
      · intro p p0 p1
        rw [hr p (by omega), if_neg (by omega), if_neg (by omega)]; exact tl p p0 p1
    · rw [if_neg hcmp]
      have hR : ¬ R (rd_Int xs (j - 1)) < R (rd_Int xs j) := fun h => hcmp (hcc.2 h)
      have hv := val (j - 1) k0 (by omega) (by omega)
      refine ⟨hp, fun p q p0 pq qi => ?_, pre, tl⟩
      by_cases e : p = j
      · rw [e]; exact rgt q (by omega) qi
      · by_cases e2 : q = j
        · rw [e2]
          have hl : Ltr R (rd_Int xs (j - 1)) (rd_Int xs j) := by unfold Ltr; omega
          by_cases e3 : p = j - 1
          · rw [e3]; exact hl
          · have h2 := srt p (j - 1) p0 (by omega) (by omega) e (by omega)
            unfold Ltr at hl h2 ⊢; omega
        · exact srt p q p0 pq qi e e2
theorem out_law {c : Int → Int → Int} {R : Int → Int} {n : Nat} (hc : ∀ x y : Int, 0 ≤ x → x < n → 0 ≤ y → y < n → (c x y < 0 ↔ R y < R x)) : ∀ (d : Nat) (i : Int) (xs : List Int), 0 ≤ i → i + d = n → Prm n xs →
    (∀ p q : Int, 0 ≤ p → p < q → q < i → Ltr R (rd_Int xs p) (rd_Int xs q)) → (∀ p : Int, 0 ≤ p → p < i → rd_Int xs p < i) → (∀ p : Int, i ≤ p → p < n → rd_Int xs p = p) →
    Prm n (outI c 0 d i xs) ∧ (∀ p q : Int, 0 ≤ p → p < q → q < n → Ltr R (rd_Int (outI c 0 d i xs) p) (rd_Int (outI c 0 d i xs) q))
  | 0, i, xs, h0, hn, hp, srt, pre, tl => ⟨hp, fun p q p0 pq qn => srt p q p0 pq (by simp at hn; omega)⟩
  | d + 1, i, xs, h0, hn, hp, srt, pre, tl => by
    rw [outI]
    have hii := tl i (by omega) (by omega)
    obtain ⟨a1, a2, a3, a4⟩ := ins_law hc (i := i) (by omega) (i - 0).toNat i xs (by omega) h0 (by omega) hp (fun p q p0 pq qi pj qj => srt p q p0 pq (by omega)) (fun q q0 q1 => by omega) (fun p p0 p1 pj => by rw [hii]; exact pre p p0 (by omega)) (fun p p0 p1 => by
      by_cases e : p = i
      · rw [e, hii]; omega
      · have := pre p p0 (by omega); omega) (fun p p0 p1 => tl p (by omega) p1)
    exact out_law hc d (i + 1) _ (by omega) (by push_cast at hn; omega) a1 (fun p q p0 pq q1 => a2 p q p0 pq (by omega)) (fun p p0 p1 => by have := a3 p p0 (by omega); omega) (fun p p0 p1 => a4 p (by omega) p1)
theorem sort_law {c : Int → Int → Int} {R : Int → Int} {n : Nat} (hn : 0 < n) (hc : ∀ x y : Int, 0 ≤ x → x < n → 0 ≤ y → y < n → (c x y < 0 ↔ R y < R x)) :
    Prm n (sortI c (genL (fun i => i) n)) ∧ (∀ p q : Int, 0 ≤ p → p < q → q < n → Ltr R (rd_Int (sortI c (genL (fun i => i) n)) p) (rd_Int (sortI c (genL (fun i => i) n)) q)) := by
  have hl : (genL (fun i : Int => i) n).length = n := genL_len _ _
  have hr : ∀ p : Int, 0 ≤ p → p < n → rd_Int (genL (fun i => i) n) p = p := fun p p0 p1 => rdI_gen p0 p1
  unfold sortI
  rw [hl]
  refine out_law hc _ _ _ (by omega) (by omega) ⟨hl, fun p p0 p1 => by rw [hr p p0 p1]; exact ⟨p0, p1⟩, fun v v0 v1 => ⟨v, v0, v1, hr v v0 v1⟩⟩ ?_ ?_ ?_
  · intro p q p0 pq q1; omega
  · intro p p0 p1; rw [hr p p0 (by omega)]; exact p1
  · intro p p0 p1; exact hr p (by omega) p1
/-- one more for each index of ord from t on, d of them -/
def incF (ord : List Int) : Nat → Int → List Int → List Int
  | 0, _, ps => ps
  | d + 1, t, ps => incF ord d (t + 1) (ps.set (rd_Int ord t).toNat (rd_Int ps (rd_Int ord t) + 1))
theorem inc_go {R : Int → Int} {n : Nat} {ord : List Int} (hp : Prm n ord) (hs : ∀ p q : Int, 0 ≤ p → p < q → q < n → Ltr R (rd_Int ord p) (rd_Int ord q)) (hR : ∀ i : Int, 0 ≤ i → i < n → 0 ≤ R i) :
    ∀ (d : Nat) (t : Int) (ps r : List Int), 0 ≤ t → t + d ≤ n → r.length = n → (∀ p : Int, 0 ≤ p → p < n → rd_Int r (rd_Int ord p) = if p < t then -1 else R (rd_Int ord p)) → incF ord d t ps = goS d ps r
  | 0, t, ps, r, _, _, _, _ => rfl
  | d + 1, t, ps, r, t0, htn, hr, h => by
    have tn : t < n := by omega
    obtain ⟨b0, b1⟩ := hp.rng t t0 tn
    have hrt := h t t0 tn
    rw [if_neg (by omega)] at hrt
    have hcmp : ∀ i : Int, 0 ≤ i → i < n → i = rd_Int ord t ∨ rd_Int r i < rd_Int r (rd_Int ord t) ∨ (rd_Int r i = rd_Int r (rd_Int ord t) ∧ rd_Int ord t < i) := by
      intro i i0 i1
      obtain ⟨p, p0, p1, e⟩ := hp.sur i i0 i1
      have h2 := h p p0 p1
      rw [e] at h2
      by_cases e1 : p = t
      · left; rw [← e, e1]
      · right
        by_cases e2 : p < t
        · rw [if_pos e2] at h2; left; rw [h2, hrt]; have := hR _ b0 b1; omega
        · rw [if_neg e2] at h2
          have := hs t p t0 (by omega) p1
          unfold Ltr at this
          rw [e] at this
          rw [h2, hrt]; omega
    have hbest : bestTo (rd_Int r) n = rd_Int ord t := best_eq b0 b1 (fun i i0 i1 => by have := hcmp i i0 (by omega); omega) (fun i i0 i1 => by have := hcmp i (by omega) i1; rcases this with e | e | e; rw [e]; omega; omega; omega)
    rw [incF, goS, hr, hbest]
    refine inc_go hp hs hR d (t + 1) _ _ (by omega) (by push_cast at htn; omega) (by rw [List.length_set]; exact hr) fun p p0 p1 => ?_
    obtain ⟨x0, x1⟩ := hp.rng p p0 p1
    rw [rdI_set b0 (by rw [hr]; exact b1) x0]
    by_cases e : p = t
    · rw [e, if_pos rfl, if_pos (by omega)]
    · have hne : rd_Int ord p ≠ rd_Int ord t := by
        intro e2
        rcases Int.lt_or_gt_of_ne e with h1 | h1
        · have := hs p t p0 h1 tn; unfold Ltr at this; rw [e2] at this; omega
        · have := hs t p t0 h1 p1; unfold Ltr at this; rw [e2] at this; omega
      rw [if_neg hne, h p p0 p1]
      by_cases e3 : p < t
      · rw [if_pos e3, if_pos (by omega)]
      · rw [if_neg e3, if_neg (by omega)]

end Go.Proofs.Ytecpojiinappcaa.H
