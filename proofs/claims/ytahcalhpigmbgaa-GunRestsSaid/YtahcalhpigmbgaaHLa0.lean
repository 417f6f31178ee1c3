import Derived.Test.YtahcalhpigmbgaaHK
import Derived.Test.YtahcalhpigmbgaaHLk
import Derived.Test.YtahcalhpigmbgaaHGm
namespace Go.Proofs.Ytahcalhpigmbgaa.H
open Go.RowKit Go.Proofs.YtahcalhpigmbgaaW.PrintWords Go.Proofs.YtahcalhpigmbgaaW.PrintLast Go.Proofs.YtahcalhpigmbgaaW.PrintMore
set_option linter.unusedVariables false
set_option linter.unusedSimpArgs false
/-! alive: the examples hold -/
theorem al0 : startS ⟨7, 3, 12, 1, 0, 1000, 600, 900⟩ 1899 = (⟨0, 0, 0, 0, 0, 0, 0, 0⟩, 13) := by kernel_rfl
theorem al1 : startS ⟨7, 3, 12, 1, 0, 1000, 600, 900⟩ 1900 = (⟨7, 3, 12, 1, 1, 1900, 600, 900⟩, 0) := by kernel_rfl
theorem al2 : stopS ⟨7, 3, 12, 1, 1, 1900, 600, 900⟩ 2499 = (⟨0, 0, 0, 0, 0, 0, 0, 0⟩, 13) := by kernel_rfl
theorem al3 : stopS ⟨7, 3, 12, 1, 1, 1900, 600, 900⟩ 2500 = (⟨7, 3, 12, 1, 0, 2500, 600, 900⟩, 0) := by kernel_rfl
theorem al4 : failS ⟨7, 3, 12, 1, 1, 1900, 600, 900⟩ 2000 = (⟨7, 3, 12, 1, 2, 2000, 600, 900⟩, 0) := by kernel_rfl
theorem al5 : repairS ⟨7, 3, 12, 1, 2, 2000, 600, 900⟩ 2100 = (⟨7, 3, 12, 1, 0, 2100, 600, 900⟩, 0) := by kernel_rfl
theorem al6 : startS ⟨7, 3, 12, 1, 0, 2100, 600, 900⟩ 2999 = (⟨0, 0, 0, 0, 0, 0, 0, 0⟩, 13) := by kernel_rfl
theorem al7 : startS ⟨7, 3, 12, 1, 0, 2100, 600, 900⟩ 3000 = (⟨7, 3, 12, 1, 1, 3000, 600, 900⟩, 0) := by kernel_rfl
theorem al8 : outS kindLaw (-60) = 175 := by kernel_rfl
theorem al9 : outS kindLaw (-150) = 300 := by kernel_rfl
theorem al10 : outS kindLaw 30 = 0 := by kernel_rfl
theorem al11 : drawsS [kindLaw] [⟨7, 3, 12, 1, 1, 1900, 600, 900⟩] (-60) = [⟨3, 175⟩] := by kernel_rfl
theorem al12 : needsS [kindLaw] [⟨7, 3, 12, 1, 1, 1900, 600, 900⟩] = [⟨3, 25000⟩] := by kernel_rfl
theorem al13 : powerS [kindLaw] [⟨7, 3, 12, 1, 1, 1900, 600, 900⟩] = 20000 := by kernel_rfl
theorem al14 : rightS [kindLaw] [⟨7, 3, 12, 1, 1, 1900, 600, 900⟩] = 0 := by kernel_rfl
theorem al15 : rightS [] [⟨7, 3, 12, 1, 1, 1900, 600, 900⟩] = 8 := by kernel_rfl
theorem al16 : sameS [⟨3, 175⟩] [⟨3, 175⟩] = true := by kernel_rfl
theorem al17 : sameS [⟨3, 25000⟩] [⟨3, 25000⟩] = true := by kernel_rfl
abbrev gunA : SGun := ⟨7, 3, 12, 1, 1, 1900, 600, 900⟩
theorem RdGK_nil (W : World) : RdGK W none [] (fun _ => none) (fun _ => 0) := ⟨fun _ => rfl, by simp, fun _ e => by (cases e), fun i h0 h1 => by simp at h1; omega⟩
theorem aliveDraws {g h : Nat} {W : World} (hK : Kd.C kGunKind W (some ⟨g, 0, none⟩) 1 [kindLaw]) (hG : Kd.C kGun W (some ⟨h, 0, none⟩) 1 [gunA]) :
    Calls Try.prog 26 #[.slice (some ⟨g, 0, none⟩) 1 1, .slice (some ⟨h, 0, none⟩) 1 1, .int .i64 (-60)] W fun e w' => ∃ A c, e = .returned (.slice A 1 c) ∧ Kd.C kDraw w' A 1 [⟨3, 175⟩] ∧ Up W w' := by
  obtain ⟨A1, C1, hR⟩ := RdGK_of hK
  refine (Draws_c (some ⟨g, 0, none⟩) 1 [kindLaw] A1 C1 (some ⟨h, 0, none⟩) 1 [gunA] (-60) W _ al11 (by simp) hR hG).mono fun e w' ⟨v, he, hv, hu⟩ => ?_
  obtain ⟨A, c, rfl, _, hC⟩ := Kd.R_reads hv
  exact ⟨A, c, he, hC, hu⟩
theorem aliveNeeds {g h : Nat} {W : World} (hK : Kd.C kGunKind W (some ⟨g, 0, none⟩) 1 [kindLaw]) (hG : Kd.C kGun W (some ⟨h, 0, none⟩) 1 [gunA]) :
    Calls Try.prog 28 #[.slice (some ⟨g, 0, none⟩) 1 1, .slice (some ⟨h, 0, none⟩) 1 1] W fun e w' => ∃ A c, e = .returned (.slice A 1 c) ∧ Kd.C kDraw w' A 1 [⟨3, 25000⟩] ∧ Up W w' := by
  obtain ⟨A1, C1, hR⟩ := RdGK_of hK
  refine (Needs_c (some ⟨g, 0, none⟩) 1 [kindLaw] A1 C1 (some ⟨h, 0, none⟩) 1 [gunA] W _ al12 (by simp) hR hG).mono fun e w' ⟨v, he, hv, hu⟩ => ?_
  obtain ⟨A, c, rfl, _, hC⟩ := Kd.R_reads hv
  exact ⟨A, c, he, hC, hu⟩
theorem alivePower {g h : Nat} {W : World} (hK : Kd.C kGunKind W (some ⟨g, 0, none⟩) 1 [kindLaw]) (hG : Kd.C kGun W (some ⟨h, 0, none⟩) 1 [gunA]) :
    Calls Try.prog 30 #[.slice (some ⟨g, 0, none⟩) 1 1, .slice (some ⟨h, 0, none⟩) 1 1] W fun e w' => e = .returned (.int .i64 20000) ∧ Up W w' := by
  obtain ⟨A1, C1, hR⟩ := RdGK_of hK
  exact Power_c (some ⟨g, 0, none⟩) 1 [kindLaw] A1 C1 (some ⟨h, 0, none⟩) 1 [gunA] _ W al13 (by simp) hR hG
theorem aliveRight {g h : Nat} {W : World} (hK : Kd.C kGunKind W (some ⟨g, 0, none⟩) 1 [kindLaw]) (hG : Kd.C kGun W (some ⟨h, 0, none⟩) 1 [gunA]) :
    Calls Try.prog 11 #[.slice (some ⟨g, 0, none⟩) 1 1, .slice (some ⟨h, 0, none⟩) 1 1] W fun e w' => e = .returned (.int .i64 0) ∧ Up W w' := by
  obtain ⟨A1, C1, hR⟩ := RdGK_of hK
  exact Right_c (some ⟨g, 0, none⟩) 1 [kindLaw] A1 C1 (some ⟨h, 0, none⟩) 1 [gunA] W _ al14 hR (by simp) hG (by simp)
theorem aliveRight0 {h : Nat} {W : World} (hG : Kd.C kGun W (some ⟨h, 0, none⟩) 1 [gunA]) :
    Calls Try.prog 11 #[.slice none 0 0, .slice (some ⟨h, 0, none⟩) 1 1] W fun e w' => e = .returned (.int .i64 8) ∧ Up W w' :=
  Right_c none 0 [] _ _ (some ⟨h, 0, none⟩) 1 [gunA] W _ al15 (RdGK_nil W) (by simp) hG (by simp)
theorem aliveSame (x : SDraw) (hx : sameS [x] [x] = true) {A : Option Addr} {c g : Nat} {W : World} (h0 : Kd.C kDraw W A 1 [x]) (h1 : Kd.C kDraw W (some ⟨g, 0, none⟩) 1 [x]) :
    Calls Try.prog 25 #[.slice A 1 c, .slice (some ⟨g, 0, none⟩) 1 1] W fun e w' => e = .returned (.bool true) ∧ Up W w' :=
  Same_c A c [x] (some ⟨g, 0, none⟩) 1 [x] true W hx h0 h1

end Go.Proofs.Ytahcalhpigmbgaa.H
