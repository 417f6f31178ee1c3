import Derived.Test.YtahcalhpigmbgaaHK
import Derived.Test.YtahcalhpigmbgaaHLw0
namespace Go.Proofs.Ytahcalhpigmbgaa.H
open Go.RowKit Go.Proofs.YtahcalhpigmbgaaW.PrintWords Go.Proofs.YtahcalhpigmbgaaW.PrintLast Go.Proofs.YtahcalhpigmbgaaW.PrintMore
set_option linter.unusedVariables false
set_option linter.unusedSimpArgs false
/-! plain laws: what right kinds and guns give -/
theorem errF_zero {e : Int → Int} {n : Nat} : errF e (n - (0 : Int).toNat) 0 = 0 ↔ ∀ i : Int, 0 ≤ i → i < n → e i = 0 := by
  have : ∀ (d : Nat) (j : Int), errF e d j = 0 ↔ ∀ i, j ≤ i → i < j + d → e i = 0 := by
    intro d
    induction d with
    | zero => intro j; simp only [errF, true_iff]; intro i h1 h2; omega
    | succ d ih =>
      intro j
      simp only [errF]
      constructor
      · intro h i h1 h2
        by_cases hz : e j = 0
        · rw [if_pos hz] at h
          by_cases hij : i = j
          · rw [hij]; exact hz
          · exact (ih (j + 1)).1 h i (by omega) (by omega)
        · rw [if_neg hz] at h; exact absurd h hz
      · intro h
        rw [if_pos (h j (by omega) (by omega))]
        exact (ih (j + 1)).2 (fun i h1 h2 => h i (by omega) (by omega))
  rw [this]
  constructor
  · intro h i h0 h1; exact h i h0 (by simp; omega)
  · intro h i h0 h1; exact h i h0 (by simp at h1; omega)
theorem idxF_lt {p : Int → Bool} : ∀ (d : Nat) (i : Int), idxF p d i < i + d ∨ idxF p d i = -1 := by
  intro d
  induction d with
  | zero => intro i; exact .inr rfl
  | succ d ih =>
    intro i
    simp only [idxF]
    split
    · exact .inl (by omega)
    · rcases ih (i + 1) with h | h
      · exact .inl (by omega)
      · exact .inr h
theorem right_kind {ks : List SGunKind} {l : List SGun} (h : rightS ks l = 0) {i : Int} (h0 : 0 ≤ i) (h1 : i < l.length) :
    fallB (kindK ks (rd_Gun l i).f3).f1 = true ∧ 0 ≤ (kindK ks (rd_Gun l i).f3).f2 ∧ (kindK ks (rd_Gun l i).f3).f2 ≤ 1000000 := by
  unfold rightS at h
  split at h
  · omega
  · split at h
    · rename_i hk
      have hg := errF_zero.1 h i h0 h1
      unfold gunE at hg
      split at hg
      · omega
      split at hg
      · omega
      split at hg
      · omega
      rename_i hx
      obtain ⟨j, hj⟩ : ∃ j, kindX ks (rd_Gun l i).f3 = j := ⟨_, rfl⟩
      rw [hj] at hx
      have hjl : j < ks.length := by
        have := idxF_lt (p := fun j => (rd_GunKind ks j).f0 == (rd_Gun l i).f3) (ks.length - (0 : Int).toNat) 0
        have e : idxF (fun j => (rd_GunKind ks j).f0 == (rd_Gun l i).f3) (ks.length - (0 : Int).toNat) 0 = j := hj
        rw [e] at this
        simp at this
        omega
      have hkk := errF_zero.1 hk j (by omega) hjl
      unfold kindE at hkk
      split at hkk
      · omega
      split at hkk
      · omega
      split at hkk
      · rename_i hb _ hf
        rw [show kindK ks (rd_Gun l i).f3 = rd_GunKind ks j by unfold kindK; rw [hj, if_neg hx]]
        refine ⟨hf, ?_⟩
        unfold kindBad inB at hb
        simp at hb
        omega
      · omega
    · rename_i hk; exact absurd h hk
theorem out_mono {k : SGunKind} (h : fallB k.f1 = true) {x y : Int} (hxy : x ≤ y) : outS k y ≤ outS k x ∧ 0 ≤ outS k y := by
  have e : ∀ z, outS k z = atV k.f1 z := fun z => by unfold outS atE; rw [if_pos (fall_at h).1]
  rw [e, e]
  exact ⟨atV_mono h hxy, (atV_rng h y).1⟩
theorem powF_none {fl fk : Int → Int} {l : List SGun} : ∀ (d : Nat) (i s : Int), drawsF fl l d i = [] → powF fk l d i s = s := by
  intro d
  induction d with
  | zero => intro i s _; rfl
  | succ d ih =>
    intro i s h
    simp only [drawsF] at h
    split at h
    · cases h
    · rename_i hz; simp only [powF]; rw [if_neg hz]; exact ih (i + 1) s h
theorem powF_rng {fk : Int → Int} {l : List SGun} {n : Nat} (hf : ∀ i : Int, 0 ≤ i → i < n → 0 ≤ fk i ∧ fk i ≤ 1000000) : ∀ (d : Nat) (i s : Int), 0 ≤ i → i + d ≤ n → 0 ≤ s → s + d * 1000000 ≤ 1000000000000 → 0 ≤ powF fk l d i s := by
  intro d
  induction d with
  | zero => intro i s _ _ h _; exact h
  | succ d ih =>
    intro i s h0 h1 hs hb
    simp only [powF]
    have h2 := hf i h0 (by omega)
    have e : ((d + 1 : Nat) : Int) * 1000000 = (d : Int) * 1000000 + 1000000 := by rw [Int.natCast_add, Int.add_mul]; rfl
    split
    · rw [show wrap64 (s + fk i) = s + fk i by unfold wrap64; omega]
      exact ih (i + 1) _ (by omega) (by omega) (by omega) (by omega)
    · exact ih (i + 1) _ (by omega) (by omega) hs (by omega)
theorem power_rng {ks : List SGunKind} {l : List SGun} (h : rightS ks l = 0) (hl : l.length ≤ 90) : 0 ≤ powerS ks l := by
  unfold powerS
  refine powF_rng (n := l.length) (fun i h0 h1 => (right_kind h h0 h1).2) _ 0 0 (by omega) (by simp) (by omega) (by simp; omega)

end Go.Proofs.Ytahcalhpigmbgaa.H
