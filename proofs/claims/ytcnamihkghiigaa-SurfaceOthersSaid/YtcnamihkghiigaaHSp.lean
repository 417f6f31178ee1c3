import Derived.Test.YtcnamihkghiigaaHK
import Derived.Test.YtcnamihkghiigaaHS1
namespace Go.Proofs.Ytcnamihkghiigaa.H
open Go.RowKit Go.Proofs.YtcnamihkghiigaaW.PrintWords Go.Proofs.YtcnamihkghiigaaW.PrintLast Go.Proofs.YtcnamihkghiigaaW.PrintMore
set_option linter.unusedVariables false
set_option linter.unusedSimpArgs false
/-! plain laws of surfaces -/
theorem errF_zero {e : Int → Int} {n : Nat} : errF e (n - (0 : Int).toNat) 0 = 0 ↔ ∀ i : Int, 0 ≤ i → i < n → e i = 0 := by
  have : ∀ (d : Nat) (j : Int), errF e d j = 0 ↔ ∀ i, j ≤ i → i < j + d → e i = 0 := by
    intro d
    induction d with
    | zero => intro j; simp only [errF, true_iff]; intro i h1 h2; omega
    | succ d ih =>
      intro j
      simp only [errF]
      constructor
      · intro h i h1 h2
        by_cases hz : e j = 0
        · rw [if_pos hz] at h
          by_cases hij : i = j
          · rw [hij]; exact hz
          · exact (ih (j + 1)).1 h i (by omega) (by omega)
        · rw [if_neg hz] at h; exact absurd h hz
      · intro h
        rw [if_pos (h j (by omega) (by omega))]
        exact (ih (j + 1)).2 (fun i h1 h2 => h i (by omega) (by omega))
  rw [this]
  constructor
  · intro h i h0 h1; exact h i h0 (by simp; omega)
  · intro h i h0 h1; exact h i h0 (by simp at h1; omega)
theorem surE_zero {l : List SSurface} {i : Int} : surE l i = 0 ↔ (1 ≤ (rd_Surface l i).f0 ∧ (rd_Surface l i).f0 ≤ 9999 ∧ -1 ≤ (rd_Surface l i).f1 ∧ (rd_Surface l i).f1 ≤ 20000000 ∧ 0 ≤ (rd_Surface l i).f2 ∧ (rd_Surface l i).f2 ≤ 1000000) ∧ (0 < i → (rd_Surface l (i - 1)).f0 < (rd_Surface l i).f0) := by
  unfold surE surB
  split
  · rename_i h
    simp only [Bool.or_eq_true, decide_eq_true_eq] at h
    constructor
    · intro h; simp at h
    · intro h2; omega
  · rename_i h
    simp only [Bool.or_eq_true, decide_eq_true_eq] at h
    split
    · constructor
      · intro h; simp at h
      · intro h2; omega
    · constructor
      · intro _; constructor <;> omega
      · intro _; rfl
theorem surR_zero {l : List SSurface} : surR l = 0 ↔ l.length ≤ 64 ∧ ∀ i : Int, 0 ≤ i → i < l.length → surE l i = 0 := by
  unfold surR
  split
  · constructor
    · intro h; simp at h
    · intro h; omega
  · rw [errF_zero]
    constructor
    · intro h; exact ⟨by omega, h⟩
    · intro h; exact h.2
theorem rd_set2 {l : List SSurface} {i k : Int} {x : SSurface} (h0 : 0 ≤ i) (h1 : i < l.length) (hk : 0 ≤ k) : rd_Surface (l.set i.toNat x) k = if k = i then x else rd_Surface l k := by
  by_cases h : k = i
  · rw [if_pos h, h]; exact rd_set h0 h1
  · rw [if_neg h]; unfold rd_Surface
    rw [List.getD_eq_getElem?_getD, List.getD_eq_getElem?_getD, List.getElem?_set_ne (by omega)]
theorem idxF_congr {p q : Int → Bool} : ∀ (d : Nat) (j : Int), (∀ k, j ≤ k → p k = q k) → idxF p d j = idxF q d j := by
  intro d
  induction d with
  | zero => intro j _; rfl
  | succ d ih => intro j h; simp only [idxF]; rw [h j (by omega), ih (j + 1) (fun k hk => h k (by omega))]
theorem surX_set {l : List SSurface} {run i : Int} {x : SSurface} (h : surX l run = i) (h0 : 0 ≤ i) (hx : x.f0 = run) : surX (l.set i.toNat x) run = i := by
  obtain ⟨h1, h2⟩ := surX_lt h h0
  refine Eq.trans ?_ h
  unfold surX
  rw [List.length_set]
  refine idxF_congr _ _ (fun k hk => ?_)
  rw [rd_set2 h0 h1 hk]
  split
  · rename_i e; rw [e, hx, h2]
  · rfl
theorem surR_set {l : List SSurface} {i : Int} {x : SSurface} (h : surR l = 0) (h0 : 0 ≤ i) (h1 : i < l.length) (hx : x.f0 = (rd_Surface l i).f0) (h3 : -1 ≤ x.f1 ∧ x.f1 ≤ 20000000) (h4 : 0 ≤ x.f2 ∧ x.f2 ≤ 1000000) : surR (l.set i.toNat x) = 0 := by
  rw [surR_zero] at h ⊢
  refine ⟨by rw [List.length_set]; exact h.1, fun k hk0 hk1 => ?_⟩
  rw [List.length_set] at hk1
  have hk := surE_zero.1 (h.2 k hk0 hk1)
  have hf : ∀ j : Int, 0 ≤ j → (rd_Surface (l.set i.toNat x) j).f0 = (rd_Surface l j).f0 := fun j hj => by
    rw [rd_set2 h0 h1 hj]; split
    · rename_i e; rw [e, hx]
    · rfl
  rw [surE_zero, hf k hk0]
  refine ⟨⟨hk.1.1, hk.1.2.1, ?_⟩, fun hp => by rw [hf (k - 1) (by omega)]; exact hk.2 hp⟩
  rw [rd_set2 h0 h1 hk0]
  split
  · exact ⟨h3.1, h3.2, h4.1, h4.2⟩
  · exact hk.1.2.2
theorem surR_at {l : List SSurface} (h : surR l = 0) {i : Int} (h0 : 0 ≤ i) (h1 : i < l.length) : 1 ≤ (rd_Surface l i).f0 ∧ (rd_Surface l i).f0 ≤ 9999 ∧ -1 ≤ (rd_Surface l i).f1 ∧ (rd_Surface l i).f1 ≤ 20000000 ∧ 0 ≤ (rd_Surface l i).f2 ∧ (rd_Surface l i).f2 ≤ 1000000 := (surE_zero.1 ((surR_zero.1 h).2 i h0 h1)).1
/-- Descend at a number in range. -/
theorem descS_in {l : List SSurface} {run n : Int} (hn : 0 ≤ n) (hn2 : n ≤ 10000) : descS l run n = if surX l run < 0 then ([], 8) else (l.set (surX l run).toNat ⟨run, (rd_Surface l (surX l run)).f1, minT (wrap64 ((rd_Surface l (surX l run)).f2 + n))⟩, 0) := by
  unfold descS
  split
  · rfl
  · rw [if_neg (by omega)]
theorem twice {l : List SSurface} {run n m : Int} (h : surR l = 0) (hn : 0 ≤ n) (hn2 : n ≤ 5000) (hm : 0 ≤ m) (hm2 : m ≤ 5000) :
    (descS l run n = ([], 8)) ∨ ∃ x y, descS l run n = (x, 0) ∧ x.length ≤ 64 ∧ descS x run m = (y, 0) ∧ descS l run (n + m) = (y, 0) := by
  rw [descS_in hn (by omega)]
  split
  · exact .inl rfl
  · rename_i hx
    obtain ⟨i, hi⟩ : ∃ i, surX l run = i := ⟨_, rfl⟩
    rw [hi] at hx ⊢
    obtain ⟨h1, h2⟩ := surX_lt hi (by omega)
    have hr := surR_at h (i := i) (by omega) h1
    refine .inr ⟨_, l.set i.toNat ⟨run, (rd_Surface l i).f1, minT (wrap64 ((rd_Surface l i).f2 + (n + m)))⟩, rfl, ?_, ?_, ?_⟩
    · rw [List.length_set]; exact (surR_zero.1 h).1
    · rw [descS_in hm (by omega), surX_set hi (by omega) rfl, if_neg hx, rd_set (by omega) h1, List.set_set]
      congr 3
      simp only [SSurface.mk.injEq, true_and]
      unfold minT wrap64
      split <;> split <;> (try split) <;> omega
    · rw [descS_in (by omega) (by omega), hi, if_neg hx]

end Go.Proofs.Ytcnamihkghiigaa.H
