/-
  Proved: for every park (kinds and guns), GunRights returns true, and the park reads as it did; no condition beyond the given statement's own.
-/
import Derived.Test.YtahcalhpigmbgaaHK
import Derived.Test.YtahcalhpigmbgaaHLr
import Derived.Test.YtahcalhpigmbgaaHOp
import Derived.Test.YtahcalhpigmbgaaRows
import Derived.WalkKit
import Derived.ProofKit
import Derived.OpenShut
import Derived.ShutString
import Derived.ChangeOld
import Derived.Below
import Derived.SizedLaws
namespace Go.Proofs.Ytahcalhpigmbgaa.H
open Go.RowKit Go.Proofs.YtahcalhpigmbgaaW.PrintWords Go.Proofs.YtahcalhpigmbgaaW.PrintLast Go.Proofs.YtahcalhpigmbgaaW.PrintMore
set_option linter.unusedVariables false
set_option linter.unusedSimpArgs false
/-! the row of GunRights -/
open Go.ChangeShapes Go.WideShapes Go.ChangeAt
theorem open_Park {H : Type} {enc : TypeId × Value → H} {w : World} {base : Nat} {spare : Nat → Bool} {held : Bool} {fuel : Nat} {cs : List Value} {x : DataW H × List MemPlace} (h : DataW.trod enc Try.prog w base spare held fuel 25 cs = some x) :
    ∃ (ks : List SGunKind) (A0 : Option Addr) (c0 : Nat) (l : List SGun) (B0 : Option Addr) (d0 : Nat), cs = [.slice A0 ks.length c0, .slice B0 l.length d0] ∧ ks.length ≤ c0 ∧ Kd.C kGunKind w A0 ks.length ks ∧ l.length ≤ d0 ∧ Kd.C kGun w B0 l.length l := by
  obtain ⟨xs, n, _, _, hl, hlen, hf⟩ := DataW.trod_struct Try.underlying25 h
  have hl : cs.length = 2 := hl.trans (by kernel_rfl)
  have hlen : xs.length = 2 := hlen
  obtain ⟨u0, u1, rfl⟩ : ∃ u0 u1, cs = [u0, u1] := by
    match cs, hl with
    | [u0, u1], _ => exact ⟨_, _, rfl⟩
  have e0 : DataW.trod enc Try.prog w base spare held n 22 (([u0, u1].drop 0).take (Try.prog.cellsOf 22)) = xs[0]? := hf 0 _ rfl
  have e1 : DataW.trod enc Try.prog w base spare held n 23 (([u0, u1].drop 1).take (Try.prog.cellsOf 23)) = xs[1]? := hf 1 _ rfl
  rw [show Try.prog.cellsOf 22 = 1 by kernel_rfl] at e0
  rw [show Try.prog.cellsOf 23 = 1 by kernel_rfl] at e1
  obtain ⟨ks, A0, c0, h1, h2, h3⟩ := op_row (cs := [u0]) Try.underlying22 (by kernel_rfl) op_GunKind (e0.trans (List.getElem?_eq_getElem (by omega)))
  obtain ⟨l, B0, d0, g1, g2, g3⟩ := op_row (cs := [u1]) Try.underlying23 (by kernel_rfl) op_Gun (e1.trans (List.getElem?_eq_getElem (by omega)))
  simp only [List.cons.injEq, and_true] at h1 g1
  subst h1 g1
  exact ⟨ks, A0, c0, l, B0, d0, rfl, h2, h3, g2, g3⟩
theorem own : ownKnob Try.prog.godebug = none := by kernel_rfl
theorem laidOut : laidOutB Try.prog = true := by kernel_rfl
set_option maxRecDepth 100000 in
theorem gunRights_lifted (os : Os) (started : os.Started) (H : Type) (enc : TypeId × Value → H) :
    ReturnsInHanded {} Try.checked os 3 .any (Rows.gunRightsSpec.pre6 enc Try.prog Try.f3 Rows.gunRightsRow.domain false) (Rows.gunRightsSpec.post enc Try.prog Try.f3 false true false false) := by
  refine returnsInHanded_of_change_sized (C := Try.checked) own started (by kernel_rfl) Try.func3
    (ChangeSpec.witness6 (enc := enc) (C := Try.checked) false ⟨#[], #[.agg #[.slice none 0 0, .slice none 0 0]], []⟩ 8 (by kernel_rfl) (by kernel_rfl) (by kernel_rfl) (by kernel_rfl)) ?_
  intro W base args ds gs before hval0 hW hcnd hsz0 _
  have hval : ∀ (j : Nat) t v, Try.f3.params[j]? = some t → args[j]? = some v → Value.okWide Try.prog W .any base t v := hval0
  have hW' := hW
  obtain ⟨p, q, hA0, hV, rfl, hfz, hnd⟩ := hW
  have hA : DataW.TrodAll enc Try.prog W 0 (fun _ => true) true Try.f3.params.toList args.toList ds p := hA0
  rw [Try.params3] at hA hval
  obtain ⟨v0, vs0, d0, ds0, p0, q0, hargs, rfl, rfl, h0, r0⟩ := trodAll_cons hA
  obtain ⟨rfl, rfl, rfl⟩ := trodAll_nil r0
  obtain rfl : args = #[v0] := by cases args; simp_all
  obtain ⟨rfl, rfl⟩ := trodVars_none hV
  have k0 := h0
  have lt0 : ∀ x ∈ p0, x.block < W.heap.size := by obtain ⟨m, hm⟩ := k0; exact DataW.trod_lt m _ _ _ hm
  obtain ⟨cs, rfl, _⟩ := okWide_struct Try.underlying25 (hval 0 25 v0 rfl rfl)
  obtain ⟨fuel, hf⟩ := h0
  obtain ⟨ks, A0, c0, l, B0, e0, hcs, l0, hK, l1, hG⟩ := open_Park hf
  obtain rfl : cs = #[.slice A0 ks.length c0, .slice B0 l.length e0] := by cases cs; simpa [Value.cells] using hcs
  clear hA0 hval0 hsz0
  obtain ⟨A1, C1, hR⟩ := RdGK_of hK
  refine (GunRights_c A0 c0 ks A1 C1 B0 e0 l W hR l0 hG l1).mono fun e W' ⟨he, bel⟩ => ?_
  have bel : Below W.heap.size W W' := bel
  subst he
  exact ⟨_, rfl, _, _, _, [], _, [], hW', trodAll_mk1 (shut_bool Try.underlying4 _), (trodAll_cons_mk (Below.trod laidOut (by kernel_rfl) (of_decide_eq_true (by kernel_rfl)) k0 bel lt0) trodAll_mk0), rfl, bel.frame _, fun h => by cases h⟩
theorem gunRights_over : Rows.gunRightsRow.holds Try.pinned (OpenSpec.ofChange Rows.gunRightsSpec) :=
  OpenClaim.holds_of_wide 3 Try.f3 rfl rfl rfl rfl rfl rfl rfl ⟨rfl, rfl, rfl, rfl, rfl⟩ rfl rfl rfl rfl rfl (by kernel_rfl) Try.func3 (by kernel_rfl)
    (of_decide_eq_true (by kernel_rfl)) (by unfold Func.isWrapper; first | (rw [if_pos (by decide +kernel)]; kernel_rfl) | (rw [if_neg (by decide +kernel)]; exact ⟨rfl, rfl⟩))
    (fun os started H enc _ => gunRights_lifted os started H enc)
end Go.Proofs.Ytahcalhpigmbgaa.H
namespace Go.Proofs.Ytahcalhpigmbgaa
/-- The row, under a short name, for the claim. -/
theorem gunRights_holds : Rows.GunRightsSaid := H.gunRights_over
#print axioms gunRights_holds
end Go.Proofs.Ytahcalhpigmbgaa
namespace Go.Proofs.Ytahcalhpigmbgaa.H

end Go.Proofs.Ytahcalhpigmbgaa.H
