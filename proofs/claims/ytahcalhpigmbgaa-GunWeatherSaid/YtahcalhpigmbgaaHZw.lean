/-
  Proved: for every park (kinds and guns) and every two temperatures GunWeather returns true, and the input reads as it did; no condition beyond the given statement's own.
-/
import Derived.Test.YtahcalhpigmbgaaHK
import Derived.Test.YtahcalhpigmbgaaHLw
import Derived.Test.YtahcalhpigmbgaaHOp
import Derived.Test.YtahcalhpigmbgaaHZr
import Derived.WideKeyPair
import Derived.Test.YtahcalhpigmbgaaRows
import Derived.WalkKit
import Derived.ProofKit
import Derived.OpenShut
import Derived.ShutString
import Derived.ChangeOld
import Derived.Below
import Derived.SizedLaws
namespace Go.Proofs.Ytahcalhpigmbgaa.H
open Go.RowKit Go.Proofs.YtahcalhpigmbgaaW.PrintWords Go.Proofs.YtahcalhpigmbgaaW.PrintLast Go.Proofs.YtahcalhpigmbgaaW.PrintMore
set_option linter.unusedVariables false
set_option linter.unusedSimpArgs false
/-! the row of GunWeather -/
open Go.ChangeShapes Go.WideShapes Go.ChangeAt
set_option maxRecDepth 100000 in
theorem gunWeather_lifted (os : Os) (started : os.Started) (H : Type) (enc : TypeId × Value → H) :
    ReturnsInHanded {} Try.checked os 7 .any (Rows.gunWeatherSpec.pre6 enc Try.prog Try.f7 Rows.gunWeatherRow.domain false) (Rows.gunWeatherSpec.post enc Try.prog Try.f7 false true false false) := by
  refine returnsInHanded_of_change_sized (C := Try.checked) own started (by kernel_rfl) Try.func7
    (ChangeSpec.witness6 (enc := enc) (C := Try.checked) false ⟨#[], #[.agg #[.slice none 0 0, .slice none 0 0], .agg #[.int .i64 0, .int .i64 0]], []⟩ 8 (by kernel_rfl) (by kernel_rfl) (by kernel_rfl) (by kernel_rfl)) ?_
  intro W base args ds gs before hval0 hW hcnd hsz0 _
  have hval : ∀ (j : Nat) t v, Try.f7.params[j]? = some t → args[j]? = some v → Value.okWide Try.prog W .any base t v := hval0
  have hW' := hW
  obtain ⟨p, q, hA0, hV, rfl, hfz, hnd⟩ := hW
  have hA : DataW.TrodAll enc Try.prog W 0 (fun _ => true) true Try.f7.params.toList args.toList ds p := hA0
  rw [Try.params7] at hA hval
  obtain ⟨v0, vs0, d0, ds0, p0, q0, hargs, rfl, rfl, h0, r0⟩ := trodAll_cons hA
  obtain ⟨v1, vs1, d1, ds1, p1, q1, rfl, rfl, rfl, h1, r1⟩ := trodAll_cons r0
  obtain ⟨rfl, rfl, rfl⟩ := trodAll_nil r1
  obtain rfl : args = #[v0, v1] := by cases args; simp_all
  obtain ⟨rfl, rfl⟩ := trodVars_none hV
  have k0 := h0
  have lt0 : ∀ x ∈ p0, x.block < W.heap.size := by obtain ⟨m, hm⟩ := k0; exact DataW.trod_lt m _ _ _ hm
  obtain ⟨cs, rfl, _⟩ := okWide_struct Try.underlying25 (hval 0 25 v0 rfl rfl)
  obtain ⟨fuel, hf⟩ := h0
  obtain ⟨ks, A0, c0, l, B0, e0, hcs, l0, hK, l1, hG⟩ := open_Park hf
  obtain rfl : cs = #[.slice A0 ks.length c0, .slice B0 l.length e0] := by cases cs; simpa [Value.cells] using hcs
  obtain ⟨A1, C1, hR⟩ := RdGK_of hK
  have ak1 : Go.WideMaps.ArrKey Try.prog 51 3 2 := ⟨Try.underlying51, by kernel_rfl, by kernel_rfl, by kernel_rfl⟩
  obtain ⟨a1, b1, rfl, rfl, rfl, wa1, wb1⟩ := Go.WideMaps.open_pair ak1 Try.underlying3 (hval 1 51 v1 rfl rfl) h1
  clear hA0 hval0 hsz0
  refine (GunWeather_c A0 c0 ks A1 C1 B0 e0 l a1 b1 W hR hG).mono fun e W' ⟨he, bel⟩ => ?_
  have bel : Below W.heap.size W W' := bel
  subst he
  exact ⟨_, rfl, _, _, _, [], _, [], hW', trodAll_mk1 (shut_bool Try.underlying4 _), (trodAll_cons_mk (Below.trod laidOut (by kernel_rfl) (of_decide_eq_true (by kernel_rfl)) k0 bel lt0) (trodAll_cons_mk (Go.WideMaps.shut_pair ak1 Try.underlying3 wa1 wb1) trodAll_mk0)), rfl, bel.frame _, fun h => by cases h⟩
theorem gunWeather_over : Rows.gunWeatherRow.holds Try.pinned (OpenSpec.ofChange Rows.gunWeatherSpec) :=
  OpenClaim.holds_of_wide 7 Try.f7 rfl rfl rfl rfl rfl rfl rfl ⟨rfl, rfl, rfl, rfl, rfl⟩ rfl rfl rfl rfl rfl (by kernel_rfl) Try.func7 (by kernel_rfl)
    (of_decide_eq_true (by kernel_rfl)) (by unfold Func.isWrapper; first | (rw [if_pos (by decide +kernel)]; kernel_rfl) | (rw [if_neg (by decide +kernel)]; exact ⟨rfl, rfl⟩))
    (fun os started H enc _ => gunWeather_lifted os started H enc)
end Go.Proofs.Ytahcalhpigmbgaa.H
namespace Go.Proofs.Ytahcalhpigmbgaa
/-- The row, under a short name, for the claim. -/
theorem gunWeather_holds : Rows.GunWeatherSaid := H.gunWeather_over
#print axioms gunWeather_holds
end Go.Proofs.Ytahcalhpigmbgaa
namespace Go.Proofs.Ytahcalhpigmbgaa.H

end Go.Proofs.Ytahcalhpigmbgaa.H
