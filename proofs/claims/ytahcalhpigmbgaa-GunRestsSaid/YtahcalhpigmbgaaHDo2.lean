import Derived.Test.YtahcalhpigmbgaaHK
import Derived.Test.YtahcalhpigmbgaaHDo
import Derived.Test.YtahcalhpigmbgaaHEq
namespace Go.Proofs.Ytahcalhpigmbgaa.H
open Go.RowKit Go.Proofs.YtahcalhpigmbgaaW.PrintWords Go.Proofs.YtahcalhpigmbgaaW.PrintLast Go.Proofs.YtahcalhpigmbgaaW.PrintMore
set_option linter.unusedVariables false
set_option linter.unusedSimpArgs false
/-! the reference's Draws, Needs, Power, Same -/
attribute [local go_sem high] eqA53
def sameF (a b : List SDraw) (i : Int) : Bool := (rd_Draw a i).f0 == (rd_Draw b i).f0 && (rd_Draw a i).f1 == (rd_Draw b i).f1
def sameS (a b : List SDraw) : Bool := decide (a.length = b.length) && allF (sameF a b) (a.length - (0 : Int).toNat) 0
set_option maxHeartbeats 4000000 in
theorem Same_c (A0 : Option Addr) (c0 : Nat) (a : List SDraw) (B0 : Option Addr) (d0 : Nat) (b : List SDraw) (r : Bool) (w : World) (h : sameS a b = r) (hr0 : Kd.C kDraw w A0 a.length a) (hr1 : Kd.C kDraw w B0 b.length b) :
    Calls Try.prog 25 #[.slice A0 a.length c0, .slice B0 b.length d0] w fun e w' => e = .returned (.bool r) ∧ Up w w' := by
  have HB := Up.refl w
  by_cases hl : a.length = b.length
  rotate_left
  · obtain rfl : false = r := by simpa [sameS, hl] using h
    have hl1 := beq_eq_false_iff_ne.mpr hl
    have hl2 := bne_iff_ne.mpr hl
    have hl3 : ((a.length : Int) != (b.length : Int)) = true := bne_iff_ne.mpr (by omega)
    clear hl h
    go_enter Try.func25, Try.ntmps25
    go_wp2
    go_ret
    exact ⟨rfl, HB⟩
  have HS := Aside0.mk (show allF (sameF a b) (a.length - (0 : Int).toNat) 0 = r by simpa [sameS, hl] using h)
  have HM := Aside0.mk (Kd.C_max hr0)
  have HR0 := Aside0.mk hr0
  have HR1 := Aside0.mk hr1
  have HL := Aside0.mk hl
  have hl3 : ((a.length : Int) != (b.length : Int)) = false := bne_eq_false_iff_eq.mpr (by omega)
  have hl2 := bne_eq_false_iff_eq.mpr hl
  clear h hl hr0 hr1
  go_enter Try.func25, Try.ntmps25
  go_wp2
  go_loopg [5] (a.length) (fun gk v5 w' => ∃ i : Int, v5 = .int .i64 i ∧ 0 ≤ i ∧ a.length - i.toNat ≤ gk ∧ Aside0 (allF (sameF a b) (a.length - i.toNat) i = r) ∧ Up w w')
  case atStart => exact ⟨0, rfl, by omega, by omega, HS, HB⟩
  case round =>
    clear HS HB
    obtain ⟨i, rfl, hi, hg, HS, HB⟩ := hrel
    have HI := Aside0.mk hi
    by_cases hlt : i < a.length
    · have HT := Aside0.mk hlt
      have HS := Aside0.mk ((allF_step hi hlt).symm.trans HS.out)
      have hlb : i < b.length := by have := HL.out; omega
      obtain ⟨ad, rfl⟩ : ∃ ad, A0 = some ad := by obtain ⟨ad, c, e, _⟩ := Kd.C_get HR0.out zDraw i hi hlt; exact ⟨ad, e⟩
      obtain ⟨bd, rfl⟩ : ∃ ad, B0 = some ad := by obtain ⟨ad, c, e, _⟩ := Kd.C_get HR1.out zDraw i hi hlb; exact ⟨ad, e⟩
      obtain ⟨hx0, hx1⟩ := rx_Draw HR0.out
      obtain ⟨hy0, hy1⟩ := rx_Draw HR1.out
      have hlt2 := decide_eq_true hlt
      replace hi := eq_true hi; replace hlt := eq_true hlt; replace hlb := eq_true hlb
      cases t1 : ((rd_Draw a i).f0 == (rd_Draw b i).f0)
      · have HS := Aside0.mk (show false = r by have h := HS.out; simpa [sameF, t1] using h)
        go_wp2; repeat (go_quiet (fail); try go_wp2)
        go_ret
        exact ⟨ret_b HS.out, (by repeat (with_reducible first | exact HB | apply Up.alloc | apply Up.drewN | apply Up.drew))⟩
      cases t2 : ((rd_Draw a i).f1 == (rd_Draw b i).f1)
      · have HS := Aside0.mk (show false = r by have h := HS.out; simpa [sameF, t1, t2] using h)
        go_wp2; repeat (go_quiet (fail); try go_wp2)
        go_ret
        exact ⟨ret_b HS.out, (by repeat (with_reducible first | exact HB | apply Up.alloc | apply Up.drewN | apply Up.drew))⟩
      · have HS := Aside0.mk (show allF (sameF a b) (a.length - (i + 1).toNat) (i + 1) = r by have h := HS.out; rw [show sameF a b i = true by simp [sameF, t1, t2], Bool.true_and] at h; exact h)
        go_wp2; repeat (go_quiet (fail); try go_wp2)
        go_roundg (gk - 1)
        case measure => have := HT.out; have := HI.out; omega
        case rel => exact ⟨i + 1, (by first | rfl | (simp; done) | (have := HT.out; have := HI.out; have := HM.out; congr 1; unfold wrap64; omega)), by have := HI.out; omega, by have := HT.out; have := HI.out; omega, HS, (by repeat (with_reducible first | exact HB | apply Up.alloc | apply Up.drewN | apply Up.drew))⟩
    · have HS := Aside0.mk ((allF_end (by omega : (a.length : Int) ≤ i)).symm.trans HS.out)
      replace hlt := decide_eq_false hlt
      go_wp2
      go_ret
      exact ⟨ret_b HS.out, HB⟩

end Go.Proofs.Ytahcalhpigmbgaa.H
