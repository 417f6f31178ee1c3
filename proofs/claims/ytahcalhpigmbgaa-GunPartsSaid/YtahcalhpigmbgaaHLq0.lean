import Derived.Test.YtahcalhpigmbgaaHK
import Derived.Test.YtahcalhpigmbgaaHLo2
namespace Go.Proofs.Ytahcalhpigmbgaa.H
open Go.RowKit Go.Proofs.YtahcalhpigmbgaaW.PrintWords Go.Proofs.YtahcalhpigmbgaaW.PrintLast Go.Proofs.YtahcalhpigmbgaaW.PrintMore
set_option linter.unusedVariables false
set_option linter.unusedSimpArgs false
/-! plain laws: two lists of guns together -/
def onL (G : SGun → Int) (l : List SGun) : List SDraw := (l.filter (fun g => g.f4 == 1)).map (fun g => ⟨g.f1, G g⟩)
def pwL (G : SGun → Int) (s : Int) (l : List SGun) : Int := (l.filter (fun g => g.f4 == 1)).foldl (fun n g => wrap64 (n + G g)) s
theorem drop_rd {l : List SGun} {i : Int} (h0 : 0 ≤ i) (h : i.toNat < l.length) : l.drop i.toNat = rd_Gun l i :: l.drop (i + 1).toNat := by
  rw [List.drop_eq_getElem_cons h, show (i + 1).toNat = i.toNat + 1 by omega]
  congr 1
  unfold rd_Gun
  rw [List.getD_eq_getElem?_getD, List.getElem?_eq_getElem h]; rfl
theorem drawsF_list (G : SGun → Int) (l : List SGun) : ∀ (d : Nat) (i : Int), 0 ≤ i → i.toNat + d = l.length → drawsF (fun i => G (rd_Gun l i)) l d i = onL G (l.drop i.toNat) := by
  intro d
  induction d with
  | zero => intro i h0 h; rw [List.drop_eq_nil_of_le (by omega)]; rfl
  | succ d ih =>
    intro i h0 h
    rw [drop_rd h0 (by omega)]
    simp only [drawsF, onL, List.filter_cons]
    rw [ih (i + 1) (by omega) (by omega)]
    by_cases e : (rd_Gun l i).f4 = 1
    · simp [e, onL]
    · simp [e, onL]
theorem powF_list (G : SGun → Int) (l : List SGun) : ∀ (d : Nat) (i s : Int), 0 ≤ i → i.toNat + d = l.length → powF (fun i => G (rd_Gun l i)) l d i s = pwL G s (l.drop i.toNat) := by
  intro d
  induction d with
  | zero => intro i s h0 h; rw [List.drop_eq_nil_of_le (by omega)]; rfl
  | succ d ih =>
    intro i s h0 h
    rw [drop_rd h0 (by omega)]
    simp only [powF, pwL, List.filter_cons]
    by_cases e : (rd_Gun l i).f4 = 1
    · rw [if_pos e, ih (i + 1) _ (by omega) (by omega)]
      simp [e, pwL]
    · rw [if_neg e, ih (i + 1) _ (by omega) (by omega)]
      simp [e, pwL]
theorem drawsS_list (ks : List SGunKind) (l : List SGun) (t : Int) : drawsS ks l t = onL (fun g => outS (kindK ks g.f3) t) l := drawsF_list (fun g => outS (kindK ks g.f3) t) l _ 0 (by omega) (by simp)
theorem needsS_list (ks : List SGunKind) (l : List SGun) : needsS ks l = onL (fun g => (kindK ks g.f3).f3) l := drawsF_list (fun g => (kindK ks g.f3).f3) l _ 0 (by omega) (by simp)
theorem powerS_list (ks : List SGunKind) (l : List SGun) : powerS ks l = pwL (fun g => (kindK ks g.f3).f2) 0 l := powF_list (fun g => (kindK ks g.f3).f2) l _ 0 0 (by omega) (by simp)
theorem onL_parts (G : SGun → Int) (l : List SGun) (m : Nat) : onL G (l.take m) ++ onL G (l.drop m) = onL G l := by
  unfold onL
  rw [← List.map_append, ← List.filter_append, List.take_append_drop]
theorem wrap_wrap (x : Int) : wrap64 (wrap64 x) = wrap64 x := by unfold wrap64; omega
theorem fold_wrap (G : SGun → Int) : ∀ (xs : List SGun) (s : Int), wrap64 s = s → xs.foldl (fun n g => wrap64 (n + G g)) s = wrap64 (s + xs.foldl (fun n g => wrap64 (n + G g)) 0) := by
  intro xs
  induction xs with
  | nil => intro s hs; simp only [List.foldl_nil, Int.add_zero]; exact hs.symm
  | cons x xs ih =>
    intro s hs
    simp only [List.foldl_cons]
    rw [ih (wrap64 (s + G x)) (wrap_wrap _), ih (wrap64 (0 + G x)) (wrap_wrap _)]
    generalize xs.foldl (fun n g => wrap64 (n + G g)) 0 = p
    generalize G x = y
    unfold wrap64
    omega
theorem fold_rng (G : SGun → Int) : ∀ (xs : List SGun) (s : Int), wrap64 s = s → wrap64 (xs.foldl (fun n g => wrap64 (n + G g)) s) = xs.foldl (fun n g => wrap64 (n + G g)) s := by
  intro xs
  induction xs with
  | nil => intro s hs; exact hs
  | cons x xs ih => intro s hs; simp only [List.foldl_cons]; exact ih _ (wrap_wrap _)
theorem pwL_parts (G : SGun → Int) (l : List SGun) (m : Nat) : wrap64 (pwL G 0 (l.take m) + pwL G 0 (l.drop m)) = pwL G 0 l := by
  have e : pwL G 0 l = (l.drop m |>.filter (fun g => g.f4 == 1)).foldl (fun n g => wrap64 (n + G g)) (pwL G 0 (l.take m)) := by
    unfold pwL
    rw [← List.foldl_append, ← List.filter_append, List.take_append_drop]
  rw [e]
  exact (fold_wrap G ((l.drop m).filter (fun g => g.f4 == 1)) (pwL G 0 (l.take m)) (fold_rng G _ 0 (by unfold wrap64; omega))).symm

end Go.Proofs.Ytahcalhpigmbgaa.H
