import Derived.Test.YtecpojiinappcaaHK
import Derived.Test.YtecpojiinappcaaHPt2
import Derived.Test.YtecpojiinappcaaHEq
namespace Go.Proofs.Ytecpojiinappcaa.H
open Go.RowKit Go.Proofs.YtecpojiinappcaaW.PrintWords Go.Proofs.YtecpojiinappcaaW.PrintLast Go.Proofs.YtecpojiinappcaaW.PrintMore
set_option linter.unusedVariables false
set_option linter.unusedSimpArgs false
/-! skiarearef39.Same -/
attribute [local go_sem high] eqA38
def sameP (a b : List SPond) (i : Int) : Bool := (rd_Pond a i).f0 == (rd_Pond b i).f0 && (rd_Pond a i).f1 == (rd_Pond b i).f1 && (rd_Pond a i).f2 == (rd_Pond b i).f2 && (rd_Pond a i).f3 == (rd_Pond b i).f3 && (rd_Pond a i).f4 == (rd_Pond b i).f4
def samePS (a b : List SPond) : Bool := decide (a.length = b.length) && allF (sameP a b) (a.length - (0 : Int).toNat) 0
set_option maxHeartbeats 4000000 in
theorem SamePond_c (A0 : Option Addr) (c0 : Nat) (a : List SPond) (B0 : Option Addr) (d0 : Nat) (b : List SPond) (r : Bool) (w : World) (h : samePS a b = r) (hr0 : Kd.C kPond w A0 a.length a) (hr1 : Kd.C kPond w B0 b.length b) :
    Calls Try.prog 19 #[.slice A0 a.length c0, .slice B0 b.length d0] w fun e w' => e = .returned (.bool r) ∧ Up w w' := by
  have HB := Up.refl w
  by_cases hl : a.length = b.length
  rotate_left
  · obtain rfl : false = r := by simpa [samePS, hl] using h
    have hl1 := beq_eq_false_iff_ne.mpr hl
    have hl2 := bne_iff_ne.mpr hl
    have hl3 : ((a.length : Int) != (b.length : Int)) = true := bne_iff_ne.mpr (by omega)
    clear hl h
    go_enter Try.func19, Try.ntmps19
    go_wp2
    go_ret
    exact ⟨rfl, HB⟩
  have HS := Aside0.mk (show allF (sameP a b) (a.length - (0 : Int).toNat) 0 = r by simpa [samePS, hl] using h)
  have HM := Aside0.mk (Kd.C_max hr0)
  have HR0 := Aside0.mk hr0
  have HR1 := Aside0.mk hr1
  have HL := Aside0.mk hl
  have hl3 : ((a.length : Int) != (b.length : Int)) = false := bne_eq_false_iff_eq.mpr (by omega)
  have hl2 := bne_eq_false_iff_eq.mpr hl
  clear h hl hr0 hr1
  go_enter Try.func19, Try.ntmps19
  go_wp2
  go_loopg [5] (a.length) (fun gk v5 w' => ∃ i : Int, v5 = .int .i64 i ∧ 0 ≤ i ∧ a.length - i.toNat ≤ gk ∧ Aside0 (allF (sameP a b) (a.length - i.toNat) i = r) ∧ Up w w')
  case atStart => exact ⟨0, rfl, by omega, by omega, HS, HB⟩
  case round =>
    clear HS HB
    obtain ⟨i, rfl, hi, hg, HS, HB⟩ := hrel
    have HI := Aside0.mk hi
    by_cases hlt : i < a.length
    · have HT := Aside0.mk hlt
      have HS := Aside0.mk ((allF_step hi hlt).symm.trans HS.out)
      have hlb : i < b.length := by have := HL.out; omega
      obtain ⟨ad, rfl⟩ : ∃ ad, A0 = some ad := by obtain ⟨ad, c, e, _⟩ := Kd.C_get HR0.out zPond i hi hlt; exact ⟨ad, e⟩
      obtain ⟨bd, rfl⟩ : ∃ ad, B0 = some ad := by obtain ⟨ad, c, e, _⟩ := Kd.C_get HR1.out zPond i hi hlb; exact ⟨ad, e⟩
      obtain ⟨hx0, hx1, hx2, hx3, hx4⟩ := rx_Pond HR0.out
      obtain ⟨hy0, hy1, hy2, hy3, hy4⟩ := rx_Pond HR1.out
      have hlt2 := decide_eq_true hlt
      replace hi := eq_true hi; replace hlt := eq_true hlt; replace hlb := eq_true hlb
      cases t1 : ((rd_Pond a i).f0 == (rd_Pond b i).f0)
      · have HS := Aside0.mk (show false = r by have h := HS.out; simpa [sameP, t1] using h)
        go_wp2; repeat (go_quiet (fail); try go_wp2)
        go_ret
        exact ⟨ret_b HS.out, (by repeat (with_reducible first | exact HB | apply Up.alloc | apply Up.drewN | apply Up.drew))⟩
      cases t2 : ((rd_Pond a i).f1 == (rd_Pond b i).f1)
      · have HS := Aside0.mk (show false = r by have h := HS.out; simpa [sameP, t1, t2] using h)
        go_wp2; repeat (go_quiet (fail); try go_wp2)
        go_ret
        exact ⟨ret_b HS.out, (by repeat (with_reducible first | exact HB | apply Up.alloc | apply Up.drewN | apply Up.drew))⟩
      cases t3 : ((rd_Pond a i).f2 == (rd_Pond b i).f2)
      · have HS := Aside0.mk (show false = r by have h := HS.out; simpa [sameP, t1, t2, t3] using h)
        go_wp2; repeat (go_quiet (fail); try go_wp2)
        go_ret
        exact ⟨ret_b HS.out, (by repeat (with_reducible first | exact HB | apply Up.alloc | apply Up.drewN | apply Up.drew))⟩
      cases t4 : ((rd_Pond a i).f3 == (rd_Pond b i).f3)
      · have HS := Aside0.mk (show false = r by have h := HS.out; simpa [sameP, t1, t2, t3, t4] using h)
        go_wp2; repeat (go_quiet (fail); try go_wp2)
        go_ret
        exact ⟨ret_b HS.out, (by repeat (with_reducible first | exact HB | apply Up.alloc | apply Up.drewN | apply Up.drew))⟩
      cases t5 : ((rd_Pond a i).f4 == (rd_Pond b i).f4)
      · have HS := Aside0.mk (show false = r by have h := HS.out; simpa [sameP, t1, t2, t3, t4, t5] using h)
        go_wp2; repeat (go_quiet (fail); try go_wp2)
        go_ret
        exact ⟨ret_b HS.out, (by repeat (with_reducible first | exact HB | apply Up.alloc | apply Up.drewN | apply Up.drew))⟩
      · have HS := Aside0.mk (show allF (sameP a b) (a.length - (i + 1).toNat) (i + 1) = r by have h := HS.out; rw [show sameP a b i = true by simp [sameP, t1, t2, t3, t4, t5], Bool.true_and] at h; exact h)
        go_wp2; repeat (go_quiet (fail); try go_wp2)
        go_roundg (gk - 1)
        case measure => have := HT.out; have := HI.out; omega
        case rel => exact ⟨i + 1, (by first | rfl | (simp; done) | (have := HT.out; have := HI.out; have := HM.out; congr 1; unfold wrap64; omega)), by have := HI.out; omega, by have := HT.out; have := HI.out; omega, HS, (by repeat (with_reducible first | exact HB | apply Up.alloc | apply Up.drewN | apply Up.drew))⟩
    · have HS := Aside0.mk ((allF_end (by omega : (a.length : Int) ≤ i)).symm.trans HS.out)
      replace hlt := decide_eq_false hlt
      go_wp2
      go_ret
      exact ⟨ret_b HS.out, HB⟩
theorem samePS_refl (l : List SPond) : samePS l l = true := by
  have h : ∀ (d : Nat) (i : Int), allF (sameP l l) d i = true := by
    intro d
    induction d with
    | zero => intro i; rfl
    | succ d ih => intro i; rw [allF, ih]; simp [sameP]
  simp [samePS, h]

end Go.Proofs.Ytecpojiinappcaa.H
