import Derived.Test.YtecpojiinappcaaHK
namespace Go.Proofs.Ytecpojiinappcaa.H
open Go.RowKit Go.Proofs.YtecpojiinappcaaW.PrintWords Go.Proofs.YtecpojiinappcaaW.PrintLast Go.Proofs.YtecpojiinappcaaW.PrintMore
set_option linter.unusedVariables false
set_option linter.unusedSimpArgs false
/-! ponds: what is computed, and plain laws of it -/
def rd_Int (xs : List Int) (i : Int) : Int := xs.getD i.toNat 0
def genL {α : Type} (f : Int → α) (n : Nat) : List α := (List.range n).map fun (k : Nat) => f (k : Int)
theorem genL_len {α : Type} (f : Int → α) (n : Nat) : (genL f n).length = n := by simp [genL]
theorem genL_succ {α : Type} (f : Int → α) (n : Nat) : genL f (n + 1) = genL f n ++ [f n] := by simp [genL, List.range_succ]
theorem genL_get {α : Type} (f : Int → α) (n i : Nat) (h : i < n) : (genL f n)[i]? = some (f i) := by simp [genL, List.getElem?_range h]
theorem genL_congr {α : Type} {f g : Int → α} {n : Nat} (h : ∀ i : Int, 0 ≤ i → i < n → f i = g i) : genL f n = genL g n := by
  apply List.ext_getElem?
  intro i
  by_cases hi : i < n
  · rw [genL_get _ _ _ hi, genL_get _ _ _ hi, h i (by omega) (by omega)]
  · rw [List.getElem?_eq_none (by rw [genL_len]; omega), List.getElem?_eq_none (by rw [genL_len]; omega)]
theorem rdI_gen {f : Int → Int} {n : Nat} {i : Int} (h0 : 0 ≤ i) (h1 : i < n) : rd_Int (genL f n) i = f i := by
  unfold rd_Int; rw [List.getD_eq_getElem?_getD, genL_get _ _ _ (by omega)]; simp [Int.toNat_of_nonneg h0]
theorem rdP_gen {f : Int → SPond} {n : Nat} {i : Int} (h0 : 0 ≤ i) (h1 : i < n) : rd_Pond (genL f n) i = f i := by
  unfold rd_Pond; rw [List.getD_eq_getElem?_getD, genL_get _ _ _ (by omega)]; simp [Int.toNat_of_nonneg h0]
theorem extI {xs ys : List Int} (h : xs.length = ys.length) (he : ∀ i : Int, 0 ≤ i → i < xs.length → rd_Int xs i = rd_Int ys i) : xs = ys := by
  apply List.ext_getElem h
  intro i h1 h2
  have := he i (by omega) (by omega)
  simpa [rd_Int, List.getD_eq_getElem?_getD, h1, h2] using this
theorem extP {xs ys : List SPond} (h : xs.length = ys.length) (he : ∀ i : Int, 0 ≤ i → i < xs.length → rd_Pond xs i = rd_Pond ys i) : xs = ys := by
  apply List.ext_getElem h
  intro i h1 h2
  have := he i (by omega) (by omega)
  simpa [rd_Pond, List.getD_eq_getElem?_getD, h1, h2] using this
theorem rdI_set {l : List Int} {i j x : Int} (h0 : 0 ≤ i) (h1 : i < l.length) (hj : 0 ≤ j) : rd_Int (l.set i.toNat x) j = if j = i then x else rd_Int l j := by
  unfold rd_Int
  rw [List.getD_eq_getElem?_getD, List.getD_eq_getElem?_getD, List.getElem?_set]
  by_cases e : j = i
  · subst e; rw [if_pos rfl, if_pos (by omega), if_pos rfl]; rfl
  · rw [if_neg (by omega), if_neg e]
theorem rdP_set {l : List SPond} {i j : Int} {x : SPond} (h0 : 0 ≤ i) (h1 : i < l.length) (hj : 0 ≤ j) : rd_Pond (l.set i.toNat x) j = if j = i then x else rd_Pond l j := by
  unfold rd_Pond
  rw [List.getD_eq_getElem?_getD, List.getD_eq_getElem?_getD, List.getElem?_set]
  by_cases e : j = i
  · subst e; rw [if_pos rfl, if_pos (by omega), if_pos rfl]; rfl
  · rw [if_neg (by omega), if_neg e]
theorem gen_self (l : List SPond) : genL (fun i => rd_Pond l i) l.length = l := extP (genL_len _ _) fun i h0 h1 => rdP_gen h0 (by rw [genL_len] at h1; exact h1)
theorem gen_selfI (l : List Int) : genL (fun i => rd_Int l i) l.length = l := extI (genL_len _ _) fun i h0 h1 => rdI_gen h0 (by rw [genL_len] at h1; exact h1)
def sumTo (f : Int → Int) : Nat → Int
  | 0 => 0
  | n + 1 => sumTo f n + f n
theorem sumTo_step {f : Int → Int} {i : Int} (h0 : 0 ≤ i) : sumTo f (i + 1).toNat = sumTo f i.toNat + f i := by
  rw [show (i + 1).toNat = i.toNat + 1 by omega]
  show sumTo f i.toNat + f (i.toNat : Int) = _
  rw [Int.toNat_of_nonneg h0]
theorem sumTo_congr {f g : Int → Int} : ∀ {n : Nat}, (∀ i : Int, 0 ≤ i → i < n → f i = g i) → sumTo f n = sumTo g n
  | 0, _ => rfl
  | n + 1, h => by rw [sumTo, sumTo, sumTo_congr (n := n) fun i h0 h1 => h i h0 (by omega), h n (by omega) (by omega)]
theorem sumTo_le {f g : Int → Int} : ∀ {n : Nat}, (∀ i : Int, 0 ≤ i → i < n → f i ≤ g i) → sumTo f n ≤ sumTo g n
  | 0, _ => Int.le_refl _
  | n + 1, h => Int.add_le_add (sumTo_le (n := n) fun i h0 h1 => h i h0 (by omega)) (h n (by omega) (by omega))
theorem sumTo_add (f g : Int → Int) : ∀ (n : Nat), sumTo (fun i => f i + g i) n = sumTo f n + sumTo g n
  | 0 => rfl
  | n + 1 => by rw [sumTo, sumTo, sumTo, sumTo_add f g n]; omega
theorem sumTo_mul (f : Int → Int) (c : Int) : ∀ (n : Nat), sumTo (fun i => c * f i) n = c * sumTo f n
  | 0 => by simp [sumTo]
  | n + 1 => by rw [sumTo, sumTo, sumTo_mul f c n, Int.mul_add]
theorem sumTo_const (c : Int) : ∀ (n : Nat), sumTo (fun _ => c) n = n * c
  | 0 => by simp [sumTo]
  | n + 1 => by rw [sumTo, sumTo_const c n]; push_cast; rw [Int.add_mul, Int.one_mul]
theorem sumTo_nonneg {f : Int → Int} {n : Nat} (h : ∀ i : Int, 0 ≤ i → i < n → 0 ≤ f i) : 0 ≤ sumTo f n := by
  have := sumTo_le (f := fun _ => 0) (g := f) (n := n) h
  rw [sumTo_const] at this; omega
theorem sumTo_bound {f : Int → Int} {n : Nat} {c : Int} (h : ∀ i : Int, 0 ≤ i → i < n → f i ≤ c) : sumTo f n ≤ n * c := by
  have := sumTo_le (f := f) (g := fun _ => c) (n := n) h
  rwa [sumTo_const] at this
theorem sumTo_one {f g : Int → Int} {b x : Int} (h0 : 0 ≤ b) : ∀ {n : Nat}, b < n → (∀ i : Int, 0 ≤ i → i < n → g i = if i = b then x else f i) → sumTo g n = sumTo f n - f b + x
  | 0, h, _ => by omega
  | n + 1, h, he => by
    by_cases e : b = n
    · rw [sumTo, sumTo, he n (by omega) (by omega), if_pos e.symm, sumTo_congr (f := g) (g := f) fun i h1 h2 => by rw [he i h1 (by omega), if_neg (by omega)]]
      rw [← e]; omega
    · rw [sumTo, sumTo, he n (by omega) (by omega), if_neg (by omega), sumTo_one h0 (n := n) (by omega) fun i h1 h2 => he i h1 (by omega)]
      omega
theorem sumTo_elem {f : Int → Int} {b : Int} {n : Nat} (h0 : 0 ≤ b) (h1 : b < n) (h : ∀ i : Int, 0 ≤ i → i < n → 0 ≤ f i) : f b ≤ sumTo f n := by
  have e := sumTo_one (f := f) (g := fun i => if i = b then 0 else f i) (x := 0) h0 h1 (fun i _ _ => rfl)
  have := sumTo_nonneg (f := fun i => if i = b then 0 else f i) (n := n) (fun i a c => by (try dsimp only); split; omega; exact h i a c)
  omega
def sumI (ws : List Int) : Int := sumTo (rd_Int ws) ws.length
/-- the first index of the greatest -/
def bestTo (r : Int → Int) : Nat → Int
  | 0 => 0
  | n + 1 => if r (bestTo r n) < r n then n else bestTo r n
theorem best_rng {r : Int → Int} : ∀ {n : Nat}, 0 < n → 0 ≤ bestTo r n ∧ bestTo r n < n
  | 0, h => by omega
  | n + 1, _ => by
    unfold bestTo
    by_cases h0 : n = 0
    · subst h0; split <;> simp [bestTo]
    · have := best_rng (r := r) (n := n) (by omega)
      split <;> omega
theorem best_eq {r : Int → Int} {b : Int} (h0 : 0 ≤ b) : ∀ {n : Nat}, b < n → (∀ i : Int, 0 ≤ i → i < b → r i < r b) → (∀ i : Int, b ≤ i → i < n → r i ≤ r b) → bestTo r n = b
  | 0, h, _, _ => by omega
  | n + 1, h, h1, h2 => by
    by_cases e : b = n
    · unfold bestTo
      by_cases hn : n = 0
      · subst hn; simp [bestTo]; omega
      · have := best_rng (r := r) (n := n) (by omega)
        rw [if_pos (by rw [← e]; exact h1 _ this.1 (by omega))]; exact e.symm
    · unfold bestTo
      rw [best_eq h0 (n := n) (by omega) h1 fun i a c => h2 i a (by omega), if_neg (by have := h2 n (by omega) (by omega); omega)]
theorem best_max {r : Int → Int} : ∀ {n : Nat} {i : Int}, 0 ≤ i → i < n → r i ≤ r (bestTo r n)
  | 0, _, h0, h1 => by omega
  | n + 1, i, h0, h1 => by
    unfold bestTo
    by_cases e : i = n
    · subst e; split <;> omega
    · have := best_max (r := r) (n := n) (i := i) h0 (by omega)
      split <;> omega
/-- k times: one more for the greatest rest -/
def goS : Nat → List Int → List Int → List Int
  | 0, q, _ => q
  | k + 1, q, r => goS k (q.set (bestTo (rd_Int r) r.length).toNat (rd_Int q (bestTo (rd_Int r) r.length) + 1)) (r.set (bestTo (rd_Int r) r.length).toNat (-1))
def quoL (x : Int) (ws : List Int) : List Int := genL (fun i => x * rd_Int ws i / sumI ws) ws.length
def remL (x : Int) (ws : List Int) : List Int := genL (fun i => x * rd_Int ws i % sumI ws) ws.length
def splitL (x : Int) (ws : List Int) : List Int := goS (x - sumI (quoL x ws)).toNat (quoL x ws) (remL x ws)
theorem goS_len : ∀ (k : Nat) (q r : List Int), (goS k q r).length = q.length
  | 0, _, _ => rfl
  | k + 1, q, r => by rw [goS, goS_len k]; simp
theorem goS_law {Q R : Int → Int} {n : Nat} : ∀ (k : Nat) (q r : List Int), q.length = n → r.length = n →
    (∀ i : Int, 0 ≤ i → i < n → (rd_Int q i = Q i ∧ rd_Int r i = R i) ∨ (rd_Int q i = Q i + 1 ∧ rd_Int r i = -1 ∧ 0 < R i)) →
    (k : Int) ≤ sumTo (fun i => if 0 < rd_Int r i then 1 else 0) n →
    (∀ i : Int, 0 ≤ i → i < n → rd_Int (goS k q r) i = Q i ∨ (rd_Int (goS k q r) i = Q i + 1 ∧ 0 < R i)) ∧ sumTo (rd_Int (goS k q r)) n = sumTo (rd_Int q) n + k
  | 0, q, r, hq, hr, h, hk => ⟨fun i h0 h1 => by rcases h i h0 h1 with h | h; exact .inl h.1; exact .inr ⟨h.1, h.2.2⟩, by simp [goS]⟩
  | k + 1, q, r, hq, hr, h, hk => by
    have hn : 0 < n := by
      by_cases e : n = 0
      · subst e; simp [sumTo] at hk; omega
      · omega
    obtain ⟨b0, b1⟩ := best_rng (r := rd_Int r) hn
    have hpos : 0 < rd_Int r (bestTo (rd_Int r) n) := by
      apply Classical.byContradiction
      intro hc
      have : sumTo (fun i => if 0 < rd_Int r i then 1 else 0) n ≤ sumTo (fun _ => 0) n := sumTo_le fun i h0 h1 => by
        (try dsimp only)
        rw [if_neg (by have := best_max (r := rd_Int r) h0 h1; omega)]; omega
      rw [sumTo_const] at this
      push_cast at hk; omega
    rw [goS, hr]
    generalize bestTo (rd_Int r) n = b at b0 b1 hpos ⊢
    have hb := h b b0 b1
    have ih := goS_law (Q := Q) (R := R) (n := n) k (q.set b.toNat (rd_Int q b + 1)) (r.set b.toNat (-1)) (by simp [hq]) (by simp [hr])
      (fun i h0 h1 => by
        rw [rdI_set b0 (by omega) h0, rdI_set b0 (by omega) h0]
        by_cases e : i = b
        · subst e; rw [if_pos rfl, if_pos rfl]; rcases hb with hb | hb
          · exact .inr ⟨by rw [hb.1], rfl, by rw [← hb.2]; exact hpos⟩
          · omega
        · rw [if_neg e, if_neg e]; exact h i h0 h1)
      (by
        have e := sumTo_one (f := fun i => if 0 < rd_Int r i then 1 else 0) (g := fun i => if 0 < rd_Int (r.set b.toNat (-1)) i then 1 else 0) (x := 0) b0 b1 (fun i h0 h1 => by
          (try dsimp only)
          rw [rdI_set b0 (by omega) h0]
          by_cases e : i = b
          · subst e; rw [if_pos rfl, if_pos rfl, if_neg (by omega)]
          · rw [if_neg e, if_neg e])
        rw [e, if_pos hpos]; push_cast at hk; omega)
    refine ⟨ih.1, ?_⟩
    rw [ih.2, sumTo_one (f := rd_Int q) (g := rd_Int (q.set b.toNat (rd_Int q b + 1))) (x := rd_Int q b + 1) b0 b1 (fun i h0 h1 => by rw [rdI_set b0 (by omega) h0])]
    push_cast; omega
/-- a weights' list as ponds have it -/
def okW (ws : List Int) : Prop := ws.length ≤ 8 ∧ ∀ i : Int, 0 ≤ i → i < ws.length → 0 ≤ rd_Int ws i ∧ rd_Int ws i ≤ 1000000000
theorem okW_sum {ws : List Int} (h : okW ws) : 0 ≤ sumI ws ∧ sumI ws ≤ 8000000000 := by
  refine ⟨sumTo_nonneg fun i a b => (h.2 i a b).1, ?_⟩
  have := sumTo_bound (f := rd_Int ws) (n := ws.length) (c := 1000000000) fun i a b => (h.2 i a b).2
  have := h.1
  unfold sumI; omega
theorem split_k {x : Int} {ws : List Int} (h : okW ws) (hx : 0 ≤ x) (hs : 0 < sumI ws) :
    0 ≤ x - sumI (quoL x ws) ∧ x - sumI (quoL x ws) ≤ sumTo (fun i => if 0 < rd_Int (remL x ws) i then 1 else 0) ws.length := by
  have e1 : sumTo (fun i => x * rd_Int ws i) ws.length = x * sumI ws := sumTo_mul _ _ _
  have e2 : sumTo (fun i => x * rd_Int ws i) ws.length = sumTo (fun i => sumI ws * rd_Int (quoL x ws) i + rd_Int (remL x ws) i) ws.length :=
    sumTo_congr fun i a b => by rw [quoL, remL, rdI_gen a b, rdI_gen a b]; exact (Int.mul_ediv_add_emod _ _).symm
  rw [e1, sumTo_add, sumTo_mul] at e2
  have e3 : sumTo (rd_Int (quoL x ws)) ws.length = sumI (quoL x ws) := by unfold sumI; rw [show (quoL x ws).length = ws.length from genL_len _ _]
  rw [e3] at e2
  have r0 : 0 ≤ sumTo (rd_Int (remL x ws)) ws.length := sumTo_nonneg fun i a b => by rw [remL, rdI_gen a b]; exact Int.emod_nonneg _ (by omega)
  have r1 : sumTo (rd_Int (remL x ws)) ws.length ≤ sumTo (fun i => sumI ws * (if 0 < rd_Int (remL x ws) i then 1 else 0)) ws.length := sumTo_le fun i a b => by
    have h1 : rd_Int (remL x ws) i < sumI ws := by rw [remL, rdI_gen a b]; exact Int.emod_lt_of_pos _ hs
    (try dsimp only)
    split <;> simp <;> omega
  rw [sumTo_mul] at r1
  have e4 : sumI ws * (x - sumI (quoL x ws)) = sumTo (rd_Int (remL x ws)) ws.length := by rw [Int.mul_sub, Int.mul_comm]; omega
  refine ⟨?_, ?_⟩
  · apply Classical.byContradiction
    intro hc
    have := Int.mul_neg_of_pos_of_neg hs (show x - sumI (quoL x ws) < 0 by omega)
    omega
  · rw [← e4] at r1
    exact Int.le_of_mul_le_mul_left r1 hs
theorem pos_le (r : Int → Int) (n : Nat) : sumTo (fun i => if 0 < r i then 1 else 0) n ≤ n := by
  have := sumTo_bound (f := fun i => if 0 < r i then 1 else 0) (n := n) (c := 1) fun i a b => by (try dsimp only); split <;> omega
  omega
theorem split_law {x : Int} {ws : List Int} (h : okW ws) (hx : 0 ≤ x) (hs : 0 < sumI ws) :
    (splitL x ws).length = ws.length ∧ (∀ i : Int, 0 ≤ i → i < ws.length → rd_Int (splitL x ws) i = x * rd_Int ws i / sumI ws ∨ (rd_Int (splitL x ws) i = x * rd_Int ws i / sumI ws + 1 ∧ 0 < x * rd_Int ws i % sumI ws)) ∧ sumI (splitL x ws) = x := by
  have hl : (splitL x ws).length = ws.length := by rw [splitL, goS_len]; exact genL_len _ _
  obtain ⟨k0, k1⟩ := split_k h hx hs
  have := goS_law (Q := fun i => x * rd_Int ws i / sumI ws) (R := fun i => x * rd_Int ws i % sumI ws) (n := ws.length) (x - sumI (quoL x ws)).toNat (quoL x ws) (remL x ws) (genL_len _ _) (genL_len _ _)
    (fun i a b => .inl ⟨rdI_gen a b, rdI_gen a b⟩) (by omega)
  refine ⟨hl, this.1, ?_⟩
  unfold sumI
  rw [hl, show splitL x ws = goS (x - sumI (quoL x ws)).toNat (quoL x ws) (remL x ws) from rfl, this.2]
  have : sumTo (rd_Int (quoL x ws)) ws.length = sumI (quoL x ws) := by unfold sumI; rw [show (quoL x ws).length = ws.length from genL_len _ _]
  omega
theorem split_le {x : Int} {ws : List Int} (h : okW ws) (hx : 0 ≤ x) (hs : 0 < sumI ws) (hxs : x ≤ sumI ws) {i : Int} (h0 : 0 ≤ i) (h1 : i < ws.length) : 0 ≤ rd_Int (splitL x ws) i ∧ rd_Int (splitL x ws) i ≤ rd_Int ws i := by
  obtain ⟨-, h2, -⟩ := split_law h hx hs
  have hw := h.2 i h0 h1
  have hq0 : 0 ≤ x * rd_Int ws i / sumI ws := Int.ediv_nonneg (Int.mul_nonneg hx hw.1) (by omega)
  have hm : x * rd_Int ws i ≤ sumI ws * rd_Int ws i := Int.mul_le_mul_of_nonneg_right hxs hw.1
  have he := Int.mul_ediv_add_emod (x * rd_Int ws i) (sumI ws)
  have hr := Int.emod_nonneg (x * rd_Int ws i) (show sumI ws ≠ 0 by omega)
  rcases h2 i h0 h1 with e | ⟨e, e2⟩
  · rw [e]; exact ⟨hq0, Int.le_of_mul_le_mul_left (by omega : sumI ws * (x * rd_Int ws i / sumI ws) ≤ sumI ws * rd_Int ws i) hs⟩
  · rw [e]
    have : x * rd_Int ws i / sumI ws < rd_Int ws i := Int.lt_of_mul_lt_mul_left (by omega : sumI ws * (x * rd_Int ws i / sumI ws) < sumI ws * rd_Int ws i) (by omega)
    omega

end Go.Proofs.Ytecpojiinappcaa.H
