import Derived.Test.YtecpojiinappcaaHK
import Derived.Test.YtecpojiinappcaaHL1
namespace Go.Proofs.Ytecpojiinappcaa.H
open Go.RowKit Go.Proofs.YtecpojiinappcaaW.PrintWords Go.Proofs.YtecpojiinappcaaW.PrintLast Go.Proofs.YtecpojiinappcaaW.PrintMore
set_option linter.unusedVariables false
set_option linter.unusedSimpArgs false
/-! ponds: plain laws of Take and Fill -/
theorem errF_of {e : Int → Int} : ∀ (d : Nat) (i : Int), (∀ j, i ≤ j → j < i + d → e j = 0) → errF e d i = 0 := by
  intro d
  induction d with
  | zero => intro i _; rfl
  | succ d ih => intro i h; rw [errF, if_pos (h i (by omega) (by omega))]; exact ih (i + 1) fun j h1 h2 => h j (by omega) (by omega)
theorem ponR_same {l ys : List SPond} (h : ponR l = 0) (hl : ys.length = l.length) (hid : ∀ i : Int, 0 ≤ i → i < l.length → (rd_Pond ys i).f0 = (rd_Pond l i).f0) (hok : ∀ i : Int, 0 ≤ i → i < l.length → ponOk (rd_Pond ys i)) : ponR ys = 0 := by
  have h8 := (ponR_ok h).1
  unfold ponR at h ⊢
  rw [if_neg (by omega)] at h
  rw [if_neg (by omega)]
  refine errF_of _ _ fun j h1 h2 => ?_
  have hj : j < l.length := by simp at h2; omega
  have hl0 := errF_zeroP _ _ h j h1 (by simp; omega)
  unfold ponE at hl0 ⊢
  rw [if_neg (by rw [ponB_iff.2 (hok j h1 hj)]; simp)]
  have hb : ¬ ponB (rd_Pond l j) = true := by intro hb; rw [if_pos hb] at hl0; omega
  rw [if_neg hb] at hl0
  have hx : ponX (ys.take j.toNat) (rd_Pond ys j).f0 = ponX (l.take j.toNat) (rd_Pond l j).f0 := by
    rw [ponX_take (by omega), ponX_take (by omega), hid j h1 hj]
    refine idxF_congrP _ _ fun k k1 k2 => ?_
    have k3 : k < j.toNat := by simp at k2; omega
    simp only [hid k k1 (by omega)]
  rw [hx]
  by_cases c : 0 ≤ ponX (l.take j.toNat) (rd_Pond l j).f0
  · rw [if_pos c] at hl0; omega
  · rw [if_neg c]
theorem sumTo_zero {f : Int → Int} {n : Nat} (h : ∀ i : Int, 0 ≤ i → i < n → 0 ≤ f i) (hs : sumTo f n = 0) {i : Int} (h0 : 0 ≤ i) (h1 : i < n) : f i = 0 := by
  have := sumTo_elem h0 h1 h
  have := h i h0 h1; omega
theorem takeL_len (l : List SPond) (x : Int) : (takeL l x).length = l.length := by
  unfold takeL; split
  · rfl
  · exact genL_len _ _
theorem takeL_rd {l : List SPond} {x : Int} (hok : PB l) (h0 : 0 ≤ x) (h1 : x ≤ spareS l) {i : Int} (i0 : 0 ≤ i) (i1 : i < l.length) :
    ∃ p, rd_Pond (takeL l x) i = ⟨(rd_Pond l i).f0, (rd_Pond l i).f1 - p, (rd_Pond l i).f2, (rd_Pond l i).f3, (rd_Pond l i).f4⟩ ∧ 0 ≤ p ∧ p ≤ sprI l i ∧ (0 < x → p = rd_Int (splitL x (sprL l)) i) ∧ (x = 0 → p = 0) := by
  by_cases hx : x = 0
  · exact ⟨0, by unfold takeL; rw [if_pos hx]; simp, by omega, (sprI_b hok i0 i1).1, fun h => by omega, fun _ => rfl⟩
  · have hs := split_le (spr_ok hok) (x := x) (i := i) h0 (by unfold spareS at h1; omega) h1 i0 (by rw [sprL_len]; exact i1)
    rw [show rd_Int (sprL l) i = sprI l i from rdI_gen i0 i1] at hs
    exact ⟨_, by unfold takeL; rw [if_neg hx, rdP_gen i0 i1]; rfl, hs.1, hs.2, fun _ => rfl, fun h => by omega⟩
theorem take_sum {l : List SPond} {x : Int} (hok : PB l) (h0 : 0 ≤ x) (h1 : x ≤ spareS l) : totalS (takeL l x) = totalS l - x := by
  by_cases hx : x = 0
  · subst hx; unfold takeL; rw [if_pos rfl]; omega
  · have hsp := split_law (spr_ok hok) (x := x) h0 (by unfold spareS at h1; omega)
    have hl : (splitL x (sprL l)).length = l.length := hsp.1.trans (sprL_len l)
    have e1 : totalS l = sumTo (fun i => (rd_Pond (takeL l x) i).f1 + rd_Int (splitL x (sprL l)) i) l.length := sumTo_congr fun i a b => by
      obtain ⟨p, e, -, -, hp, -⟩ := takeL_rd hok h0 h1 a b
      rw [e, ← hp (by omega)]; simp
    rw [sumTo_add] at e1
    have e2 : sumTo (rd_Int (splitL x (sprL l))) l.length = x := by rw [← hl]; exact hsp.2.2
    unfold totalS at e1 ⊢
    rw [takeL_len, e1, e2]; omega
theorem take_right {l : List SPond} {x : Int} (hr : ponR l = 0) (h0 : 0 ≤ x) (h1 : x ≤ spareS l) : ponR (takeL l x) = 0 := by
  have hok := ponR_ok hr
  refine ponR_same hr (takeL_len l x) (fun i a b => ?_) fun i a b => ?_
  · obtain ⟨p, e, -⟩ := takeL_rd hok h0 h1 a b
    rw [e]
  · obtain ⟨p, e, p0, p1, -⟩ := takeL_rd hok h0 h1 a b
    have := hok.2 i a b
    unfold sprI at p1
    rw [e]; unfold ponOk at this ⊢; dsimp only; omega
theorem take_all {l : List SPond} (hok : PB l) {i : Int} (a : 0 ≤ i) (b : i < l.length) : (rd_Pond (takeL l (spareS l)) i).f1 = (rd_Pond l i).f2 := by
  have hs0 := (okW_sum (spr_ok hok)).1
  obtain ⟨p, e, p0, p1, hp, hz⟩ := takeL_rd hok (x := spareS l) hs0 (Int.le_refl _) a b
  rw [e]
  show (rd_Pond l i).f1 - p = _
  have hw : rd_Int (sprL l) i = sprI l i := rdI_gen a b
  by_cases h0 : spareS l = 0
  · have hz0 : sprI l i = 0 := sumTo_zero (f := sprI l) (fun k c d => (sprI_b hok c d).1) (by rw [← spareS_eq]; exact h0) a b
    have := hz h0
    unfold sprI at hz0; omega
  · have hpos : 0 < spareS l := by unfold spareS at *; omega
    have hsp := (split_law (spr_ok hok) (x := spareS l) hs0 hpos).2.1 i a (by rw [sprL_len]; exact b)
    rw [← hp hpos, hw] at hsp
    have e1 : spareS l * sprI l i / sumI (sprL l) = sprI l i := Int.mul_ediv_cancel_left _ (by unfold spareS at *; omega)
    have e2 : spareS l * sprI l i % sumI (sprL l) = 0 := Int.mul_emod_right _ _
    rw [e1, e2] at hsp
    unfold sprI at hsp; omega
theorem take_none {l : List SPond} (hok : PB l) : spareS (takeL l (spareS l)) = 0 := by
  have hs0 := (okW_sum (spr_ok hok)).1
  rw [spareS_eq, takeL_len, sumTo_congr (g := fun _ => 0) fun i a b => ?_, sumTo_const]
  · omega
  · obtain ⟨p, e, -⟩ := takeL_rd hok (x := spareS l) hs0 (Int.le_refl _) a b
    have := take_all hok a b
    unfold sprI
    rw [this, e]; exact Int.sub_self _
theorem fill_right {l : List SPond} {t : Int} (hr : ponR l = 0) (h0 : 0 ≤ t) : ponR (genL (fl l t) l.length) = 0 := by
  have hok := ponR_ok hr
  refine ponR_same hr (genL_len _ _) (fun i a b => by rw [rdP_gen a b]; rfl) fun i a b => ?_
  have := hok.2 i a b
  have hi := inF_b this h0
  rw [rdP_gen a b]; unfold fl ponOk at *; dsimp only; omega
theorem fill_sum (l : List SPond) (t : Int) : totalS (genL (fl l t) l.length) = totalS l + inS l t := by
  unfold totalS inS
  rw [genL_len, ← sumTo_add]
  exact sumTo_congr fun i a b => by rw [rdP_gen a b]; rfl
theorem inF_mono {p : SPond} {s t : Int} (h : ponOk p) (h0 : 0 ≤ s) (h1 : s ≤ t) : inF p s ≤ inF p t := by
  unfold ponOk at h
  have hm : p.f4 * s ≤ p.f4 * t := Int.mul_le_mul_of_nonneg_left h1 h.2.2.2.2.2.1
  have := Int.ediv_le_ediv (show (0 : Int) < 3600 by omega) hm
  unfold inF; split <;> split <;> omega
theorem inF_zero {p : SPond} (h : ponOk p) : inF p 0 = 0 := by
  unfold ponOk at h
  unfold inF; rw [Int.mul_zero]; split
  · omega
  · rfl
theorem fill_zero {l : List SPond} (hok : PB l) : fillS l 0 = (l, 0, 0) := by
  unfold fillS
  rw [if_neg (by omega)]
  have e1 : genL (fl l 0) l.length = l := (genL_congr fun i a b => by unfold fl; rw [inF_zero (hok.2 i a b), Int.add_zero]).trans (gen_self l)
  have e2 : inS l 0 = 0 := by
    unfold inS; rw [sumTo_congr (g := fun _ => 0) fun i a b => inF_zero (hok.2 i a b), sumTo_const]; omega
  rw [e1, e2]
theorem inS_mono {l : List SPond} (hok : PB l) {s t : Int} (h0 : 0 ≤ s) (h1 : s ≤ t) : 0 ≤ inS l s ∧ inS l s ≤ inS l t :=
  ⟨sumTo_nonneg fun i a b => (inF_b (hok.2 i a b) h0).1, sumTo_le fun i a b => inF_mono (hok.2 i a b) h0 h1⟩

end Go.Proofs.Ytecpojiinappcaa.H
