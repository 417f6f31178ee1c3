import Derived.Test.YtahcalhpigmbgaaHK
import Derived.Test.YtahcalhpigmbgaaHOp
namespace Go.Proofs.Ytahcalhpigmbgaa.H
open Go.RowKit Go.Proofs.YtahcalhpigmbgaaW.PrintWords Go.Proofs.YtahcalhpigmbgaaW.PrintLast Go.Proofs.YtahcalhpigmbgaaW.PrintMore
set_option linter.unusedVariables false
set_option linter.unusedSimpArgs false
theorem op_LOp : Opens kLOp 49 := by
  intro H enc w base spare held fuel cs x h
  obtain ⟨xs, n, _, _, hl, hlen, hf⟩ := DataW.trod_struct Try.underlying49 h
  have hl : cs.length = 2 := hl.trans (by kernel_rfl)
  have hlen : xs.length = 2 := hlen
  obtain ⟨c0, c1, rfl⟩ : ∃ c0 c1, cs = [c0, c1] := by
    match cs, hl with
    | [c0, c1], _ => exact ⟨_, _, rfl⟩
  clear h hl
  have e0 : DataW.trod enc Try.prog w base spare held n 3 (([c0, c1].drop 0).take (Try.prog.cellsOf 3)) = xs[0]? := hf 0 _ rfl
  rw [show Try.prog.cellsOf 3 = 1 by kernel_rfl] at e0
  obtain ⟨y0, h0⟩ := (op_int (k := .i64) Try.underlying3) enc w base spare held n [c0] _ (e0.trans (List.getElem?_eq_getElem (by omega)))
  have e1 : DataW.trod enc Try.prog w base spare held n 3 (([c0, c1].drop 1).take (Try.prog.cellsOf 3)) = xs[1]? := hf 1 _ rfl
  rw [show Try.prog.cellsOf 3 = 1 by kernel_rfl] at e1
  obtain ⟨y1, h1⟩ := (op_int (k := .i64) Try.underlying3) enc w base spare held n [c1] _ (e1.trans (List.getElem?_eq_getElem (by omega)))
  exact ⟨⟨y0, y1⟩, ⟨[c0], [c1], rfl, h0, h1⟩⟩

end Go.Proofs.Ytahcalhpigmbgaa.H
