import Derived.Test.YtahcalhpigmbgaaHK
import Derived.Deep.Slices
import Derived.ChangeArms
import Derived.DataReads
import Derived.WideShapes
namespace Go.Proofs.Ytahcalhpigmbgaa.H
open Go.RowKit Go.Proofs.YtahcalhpigmbgaaW.PrintWords Go.Proofs.YtahcalhpigmbgaaW.PrintLast Go.Proofs.YtahcalhpigmbgaaW.PrintMore
set_option linter.unusedVariables false
set_option linter.unusedSimpArgs false
/-! what an argument's datum says, opened into the kinds -/
def Opens {α : Type} (d : Kd α) (t : TypeId) : Prop := ∀ {H : Type} (enc : TypeId × Value → H) (w : World) (base : Nat) (spare : Nat → Bool) (held : Bool) (fuel : Nat) (cs : List Value) (x : DataW H × List MemPlace), DataW.trod enc Try.prog w base spare held fuel t cs = some x → ∃ y, d.K w y cs
theorem list_of {α : Type} {P : Nat → α → Prop} : ∀ (n : Nat), (∀ i, i < n → ∃ p, P i p) → ∃ xs : List α, xs.length = n ∧ ∀ i p, xs[i]? = some p → P i p
  | 0, _ => ⟨[], rfl, fun i p h => by simp at h⟩
  | n + 1, h => by
    obtain ⟨xs, hl, hx⟩ := list_of n (fun i hi => h i (by omega))
    obtain ⟨p, hp⟩ := h n (by omega)
    refine ⟨xs ++ [p], by simp [hl], fun i q hq => ?_⟩
    rcases Nat.lt_or_ge i xs.length with hi | hi
    · rw [List.getElem?_append_left hi] at hq; exact hx i q hq
    · rw [List.getElem?_append_right hi] at hq
      have h1 := (List.getElem?_eq_some_iff.1 hq).1
      simp at h1
      have h2 : i = n := by omega
      subst h2
      simp [hl] at hq
      exact hq ▸ hp
theorem op_int {k : IntKind} {t : TypeId} (ht : Try.prog.underlying t = some (.int k)) : Opens (Kd.int k) t := by
  intro H enc w base spare held fuel cs x h
  obtain ⟨n, rfl, _⟩ := DataW.trod_int ht h
  exact ⟨n, rfl⟩
theorem op_row {α : Type} {d : Kd α} {t e : TypeId} (ht : Try.prog.underlying t = some (.slice e)) (hz : Try.prog.cellsOf e = d.sz) (ho : Opens d e)
    {H : Type} {enc : TypeId × Value → H} {w : World} {base : Nat} {spare : Nat → Bool} {held : Bool} {fuel : Nat} {cs : List Value} {x : DataW H × List MemPlace} (h : DataW.trod enc Try.prog w base spare held fuel t cs = some x) :
    ∃ (xs : List α) (A : Option Addr) (c : Nat), cs = [.slice A xs.length c] ∧ xs.length ≤ c ∧ d.C w A xs.length xs := by
  rcases Go.Deep.open_slice ht h with ⟨rfl, _⟩ | ⟨a, len, cap, m, n, D, Pl, rfl, hb, hl, hm, hmm, _, hall⟩
  · exact ⟨[], none, 0, rfl, Nat.le_refl _, Kd.C_nil _ _⟩
  · have hlm : len ≤ m := by rw [hmm]; split <;> omega
    obtain ⟨xs, hxl, hx⟩ := list_of (P := fun i y => ∃ c, c.length = d.sz ∧ d.K w y c ∧ ∀ j u, c[j]? = some u → w.cell? (a.add (i * d.sz + j)) = some u) len (fun i hi => by
      obtain ⟨cs', h1, h2⟩ := hall i (by omega)
      obtain ⟨y, hy⟩ := ho enc w base spare held n cs' _ h2
      refine ⟨y, cs', d.K_len hy, hy, fun j u hu => ?_⟩
      obtain ⟨_, h3, h4⟩ := World.cells?_some h1
      have hj : j < Try.prog.cellsOf e := by rw [← h3]; exact (List.getElem?_eq_some_iff.1 hu).1
      have := h4 j hj
      rw [Go.Deep.add_add, hz] at this
      rw [this, hu])
    subst hxl
    exact ⟨xs, some a, cap, rfl, hl, rfl, (by have h9 : xs.length ≤ maxLen := Nat.le_trans hl hm; simp only [maxLen] at h9; omega), fun _ => ⟨a, rfl, hx⟩⟩
theorem op_slice {α : Type} {d : Kd α} {t e : TypeId} (q : Nat) (ht : Try.prog.underlying t = some (.slice e)) (hz : Try.prog.cellsOf e = d.sz) (ho : Opens d e) : Opens (Kd.slice q d) t := by
  intro H enc w base spare held fuel cs x h
  obtain ⟨xs, A, c, h1, h2, h3⟩ := op_row ht hz ho h
  exact ⟨xs, A, c, h1, h2, h3⟩
theorem op_Point : Opens kPoint 66 := by
  intro H enc w base spare held fuel cs x h
  obtain ⟨xs, n, _, _, hl, hlen, hf⟩ := DataW.trod_struct Try.underlying66 h
  have hl : cs.length = 2 := hl.trans (by kernel_rfl)
  have hlen : xs.length = 2 := hlen
  obtain ⟨c0, c1, rfl⟩ : ∃ c0 c1, cs = [c0, c1] := by
    match cs, hl with
    | [c0, c1], _ => exact ⟨_, _, rfl⟩
  clear h hl
  have e0 : DataW.trod enc Try.prog w base spare held n 3 (([c0, c1].drop 0).take (Try.prog.cellsOf 3)) = xs[0]? := hf 0 _ rfl
  rw [show Try.prog.cellsOf 3 = 1 by kernel_rfl] at e0
  obtain ⟨y0, h0⟩ := (op_int (k := .i64) Try.underlying3) enc w base spare held n [c0] _ (e0.trans (List.getElem?_eq_getElem (by omega)))
  have e1 : DataW.trod enc Try.prog w base spare held n 3 (([c0, c1].drop 1).take (Try.prog.cellsOf 3)) = xs[1]? := hf 1 _ rfl
  rw [show Try.prog.cellsOf 3 = 1 by kernel_rfl] at e1
  obtain ⟨y1, h1⟩ := (op_int (k := .i64) Try.underlying3) enc w base spare held n [c1] _ (e1.trans (List.getElem?_eq_getElem (by omega)))
  exact ⟨⟨y0, y1⟩, ⟨[c0], [c1], rfl, h0, h1⟩⟩
theorem op_GunKind : Opens kGunKind 39 := by
  intro H enc w base spare held fuel cs x h
  obtain ⟨xs, n, _, _, hl, hlen, hf⟩ := DataW.trod_struct Try.underlying39 h
  have hl : cs.length = 4 := hl.trans (by kernel_rfl)
  have hlen : xs.length = 4 := hlen
  obtain ⟨c0, c1, c2, c3, rfl⟩ : ∃ c0 c1 c2 c3, cs = [c0, c1, c2, c3] := by
    match cs, hl with
    | [c0, c1, c2, c3], _ => exact ⟨_, _, _, _, rfl⟩
  clear h hl
  have e0 : DataW.trod enc Try.prog w base spare held n 3 (([c0, c1, c2, c3].drop 0).take (Try.prog.cellsOf 3)) = xs[0]? := hf 0 _ rfl
  rw [show Try.prog.cellsOf 3 = 1 by kernel_rfl] at e0
  obtain ⟨y0, h0⟩ := (op_int (k := .i64) Try.underlying3) enc w base spare held n [c0] _ (e0.trans (List.getElem?_eq_getElem (by omega)))
  have e1 : DataW.trod enc Try.prog w base spare held n 37 (([c0, c1, c2, c3].drop 1).take (Try.prog.cellsOf 37)) = xs[1]? := hf 1 _ rfl
  rw [show Try.prog.cellsOf 37 = 1 by kernel_rfl] at e1
  obtain ⟨y1, h1⟩ := (op_slice 66 Try.underlying37 (by kernel_rfl) op_Point) enc w base spare held n [c1] _ (e1.trans (List.getElem?_eq_getElem (by omega)))
  have e2 : DataW.trod enc Try.prog w base spare held n 3 (([c0, c1, c2, c3].drop 2).take (Try.prog.cellsOf 3)) = xs[2]? := hf 2 _ rfl
  rw [show Try.prog.cellsOf 3 = 1 by kernel_rfl] at e2
  obtain ⟨y2, h2⟩ := (op_int (k := .i64) Try.underlying3) enc w base spare held n [c2] _ (e2.trans (List.getElem?_eq_getElem (by omega)))
  have e3 : DataW.trod enc Try.prog w base spare held n 3 (([c0, c1, c2, c3].drop 3).take (Try.prog.cellsOf 3)) = xs[3]? := hf 3 _ rfl
  rw [show Try.prog.cellsOf 3 = 1 by kernel_rfl] at e3
  obtain ⟨y3, h3⟩ := (op_int (k := .i64) Try.underlying3) enc w base spare held n [c3] _ (e3.trans (List.getElem?_eq_getElem (by omega)))
  exact ⟨⟨y0, y1, y2, y3⟩, ⟨[c0], [c1, c2, c3], rfl, h0, ⟨[c1], [c2, c3], rfl, h1, ⟨[c2], [c3], rfl, h2, h3⟩⟩⟩⟩
theorem op_Gun : Opens kGun 31 := by
  intro H enc w base spare held fuel cs x h
  obtain ⟨xs, n, _, _, hl, hlen, hf⟩ := DataW.trod_struct Try.underlying31 h
  have hl : cs.length = 8 := hl.trans (by kernel_rfl)
  have hlen : xs.length = 8 := hlen
  obtain ⟨c0, c1, c2, c3, c4, c5, c6, c7, rfl⟩ : ∃ c0 c1 c2 c3 c4 c5 c6 c7, cs = [c0, c1, c2, c3, c4, c5, c6, c7] := by
    match cs, hl with
    | [c0, c1, c2, c3, c4, c5, c6, c7], _ => exact ⟨_, _, _, _, _, _, _, _, rfl⟩
  clear h hl
  have e0 : DataW.trod enc Try.prog w base spare held n 3 (([c0, c1, c2, c3, c4, c5, c6, c7].drop 0).take (Try.prog.cellsOf 3)) = xs[0]? := hf 0 _ rfl
  rw [show Try.prog.cellsOf 3 = 1 by kernel_rfl] at e0
  obtain ⟨y0, h0⟩ := (op_int (k := .i64) Try.underlying3) enc w base spare held n [c0] _ (e0.trans (List.getElem?_eq_getElem (by omega)))
  have e1 : DataW.trod enc Try.prog w base spare held n 3 (([c0, c1, c2, c3, c4, c5, c6, c7].drop 1).take (Try.prog.cellsOf 3)) = xs[1]? := hf 1 _ rfl
  rw [show Try.prog.cellsOf 3 = 1 by kernel_rfl] at e1
  obtain ⟨y1, h1⟩ := (op_int (k := .i64) Try.underlying3) enc w base spare held n [c1] _ (e1.trans (List.getElem?_eq_getElem (by omega)))
  have e2 : DataW.trod enc Try.prog w base spare held n 3 (([c0, c1, c2, c3, c4, c5, c6, c7].drop 2).take (Try.prog.cellsOf 3)) = xs[2]? := hf 2 _ rfl
  rw [show Try.prog.cellsOf 3 = 1 by kernel_rfl] at e2
  obtain ⟨y2, h2⟩ := (op_int (k := .i64) Try.underlying3) enc w base spare held n [c2] _ (e2.trans (List.getElem?_eq_getElem (by omega)))
  have e3 : DataW.trod enc Try.prog w base spare held n 3 (([c0, c1, c2, c3, c4, c5, c6, c7].drop 3).take (Try.prog.cellsOf 3)) = xs[3]? := hf 3 _ rfl
  rw [show Try.prog.cellsOf 3 = 1 by kernel_rfl] at e3
  obtain ⟨y3, h3⟩ := (op_int (k := .i64) Try.underlying3) enc w base spare held n [c3] _ (e3.trans (List.getElem?_eq_getElem (by omega)))
  have e4 : DataW.trod enc Try.prog w base spare held n 3 (([c0, c1, c2, c3, c4, c5, c6, c7].drop 4).take (Try.prog.cellsOf 3)) = xs[4]? := hf 4 _ rfl
  rw [show Try.prog.cellsOf 3 = 1 by kernel_rfl] at e4
  obtain ⟨y4, h4⟩ := (op_int (k := .i64) Try.underlying3) enc w base spare held n [c4] _ (e4.trans (List.getElem?_eq_getElem (by omega)))
  have e5 : DataW.trod enc Try.prog w base spare held n 3 (([c0, c1, c2, c3, c4, c5, c6, c7].drop 5).take (Try.prog.cellsOf 3)) = xs[5]? := hf 5 _ rfl
  rw [show Try.prog.cellsOf 3 = 1 by kernel_rfl] at e5
  obtain ⟨y5, h5⟩ := (op_int (k := .i64) Try.underlying3) enc w base spare held n [c5] _ (e5.trans (List.getElem?_eq_getElem (by omega)))
  have e6 : DataW.trod enc Try.prog w base spare held n 3 (([c0, c1, c2, c3, c4, c5, c6, c7].drop 6).take (Try.prog.cellsOf 3)) = xs[6]? := hf 6 _ rfl
  rw [show Try.prog.cellsOf 3 = 1 by kernel_rfl] at e6
  obtain ⟨y6, h6⟩ := (op_int (k := .i64) Try.underlying3) enc w base spare held n [c6] _ (e6.trans (List.getElem?_eq_getElem (by omega)))
  have e7 : DataW.trod enc Try.prog w base spare held n 3 (([c0, c1, c2, c3, c4, c5, c6, c7].drop 7).take (Try.prog.cellsOf 3)) = xs[7]? := hf 7 _ rfl
  rw [show Try.prog.cellsOf 3 = 1 by kernel_rfl] at e7
  obtain ⟨y7, h7⟩ := (op_int (k := .i64) Try.underlying3) enc w base spare held n [c7] _ (e7.trans (List.getElem?_eq_getElem (by omega)))
  exact ⟨⟨y0, y1, y2, y3, y4, y5, y6, y7⟩, ⟨[c0], [c1, c2, c3, c4, c5, c6, c7], rfl, h0, ⟨[c1], [c2, c3, c4, c5, c6, c7], rfl, h1, ⟨[c2], [c3, c4, c5, c6, c7], rfl, h2, ⟨[c3], [c4, c5, c6, c7], rfl, h3, ⟨[c4], [c5, c6, c7], rfl, h4, ⟨[c5], [c6, c7], rfl, h5, ⟨[c6], [c7], rfl, h6, h7⟩⟩⟩⟩⟩⟩⟩⟩

end Go.Proofs.Ytahcalhpigmbgaa.H
