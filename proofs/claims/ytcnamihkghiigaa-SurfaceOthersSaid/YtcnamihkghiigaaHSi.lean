import Derived.Test.YtcnamihkghiigaaHK
import Derived.Test.YtcnamihkghiigaaHSm
namespace Go.Proofs.Ytcnamihkghiigaa.H
open Go.RowKit Go.Proofs.YtcnamihkghiigaaW.PrintWords Go.Proofs.YtcnamihkghiigaaW.PrintLast Go.Proofs.YtcnamihkghiigaaW.PrintMore
set_option linter.unusedVariables false
set_option linter.unusedSimpArgs false
/-! SameInts -/
def rd_Int (xs : List Int) (i : Int) : Int := xs.getD i.toNat 0
theorem rx_Int {w : World} {ad : Addr} {n : Nat} {l : List Int} (h : Kd.C (Kd.int .i64) w (some ad) n l) :
    ∀ (W : World) (i : Int), Up w W → 0 ≤ i → i < n → W.cell? (ad.add i.toNat) = some (.int .i64 (rd_Int l i)) := by
  intro W i hu h0 h1
  obtain ⟨ad', c, e, hl, hK, hc⟩ := Kd.C_get h 0 i h0 h1
  cases e
  obtain rfl : c = [.int .i64 (rd_Int l i)] := hK
  have h2 := hc 0 _ rfl
  rw [show i.toNat * (Kd.int IntKind.i64).sz + 0 = i.toNat from by show i.toNat * 1 + 0 = i.toNat; omega] at h2
  exact (hu.cell (World.block_lt_of_cell? w _ h2)).trans h2
def sameI (a b : List Int) (i : Int) : Bool := rd_Int a i == rd_Int b i
def sameIS (a b : List Int) : Bool := decide (a.length = b.length) && allF (sameI a b) (a.length - (0 : Int).toNat) 0
set_option maxHeartbeats 4000000 in
theorem SameInts_c (A0 : Option Addr) (c0 : Nat) (a : List Int) (B0 : Option Addr) (d0 : Nat) (b : List Int) (r : Bool) (w : World) (h : sameIS a b = r) (hr0 : Kd.C (Kd.int .i64) w A0 a.length a) (hr1 : Kd.C (Kd.int .i64) w B0 b.length b) :
    Calls Try.prog 21 #[.slice A0 a.length c0, .slice B0 b.length d0] w fun e w' => e = .returned (.bool r) ∧ Up w w' := by
  have HB := Up.refl w
  by_cases hl : a.length = b.length
  rotate_left
  · obtain rfl : false = r := by simpa [sameIS, hl] using h
    have hl1 := beq_eq_false_iff_ne.mpr hl
    have hl2 := bne_iff_ne.mpr hl
    have hl3 : ((a.length : Int) != (b.length : Int)) = true := bne_iff_ne.mpr (by omega)
    clear hl h
    go_enter Try.func21, Try.ntmps21
    go_wp2
    go_ret
    exact ⟨rfl, HB⟩
  have HS := Aside0.mk (show allF (sameI a b) (a.length - (0 : Int).toNat) 0 = r by simpa [sameIS, hl] using h)
  have HM := Aside0.mk (Kd.C_max hr0)
  have HR0 := Aside0.mk hr0
  have HR1 := Aside0.mk hr1
  have HL := Aside0.mk hl
  have hl3 : ((a.length : Int) != (b.length : Int)) = false := bne_eq_false_iff_eq.mpr (by omega)
  have hl2 := bne_eq_false_iff_eq.mpr hl
  clear h hl hr0 hr1
  go_enter Try.func21, Try.ntmps21
  go_wp2
  go_loopg [5] (a.length) (fun gk v5 w' => ∃ i : Int, v5 = .int .i64 i ∧ 0 ≤ i ∧ a.length - i.toNat ≤ gk ∧ Aside0 (allF (sameI a b) (a.length - i.toNat) i = r) ∧ Up w w')
  case atStart => exact ⟨0, rfl, by omega, by omega, HS, HB⟩
  case round =>
    clear HS HB
    obtain ⟨i, rfl, hi, hg, HS, HB⟩ := hrel
    have HI := Aside0.mk hi
    by_cases hlt : i < a.length
    · have HT := Aside0.mk hlt
      have HS := Aside0.mk ((allF_step hi hlt).symm.trans HS.out)
      have hlb : i < b.length := by have := HL.out; omega
      obtain ⟨ad, rfl⟩ : ∃ ad, A0 = some ad := by obtain ⟨ad, c, e, _⟩ := Kd.C_get HR0.out 0 i hi hlt; exact ⟨ad, e⟩
      obtain ⟨bd, rfl⟩ : ∃ ad, B0 = some ad := by obtain ⟨ad, c, e, _⟩ := Kd.C_get HR1.out 0 i hi hlb; exact ⟨ad, e⟩
      have hx0 := rx_Int HR0.out
      have hy0 := rx_Int HR1.out
      have hlt2 := decide_eq_true hlt
      replace hi := eq_true hi; replace hlt := eq_true hlt; replace hlb := eq_true hlb
      by_cases t1 : rd_Int a i = rd_Int b i
      · have HS := Aside0.mk (show allF (sameI a b) (a.length - (i + 1).toNat) (i + 1) = r by have h := HS.out; rw [show sameI a b i = true by simp [sameI, t1], Bool.true_and] at h; exact h)
        have t1n := bne_eq_false_iff_eq.mpr t1; replace t1 := beq_iff_eq.mpr t1
        go_wp2; repeat (go_quiet (fail); try go_wp2)
        go_roundg (gk - 1)
        case measure => have := HT.out; have := HI.out; omega
        case rel => exact ⟨i + 1, (by first | rfl | (simp; done) | (have := HT.out; have := HI.out; have := HM.out; congr 1; unfold wrap64; omega)), by have := HI.out; omega, by have := HT.out; have := HI.out; omega, HS, (by repeat (with_reducible first | exact HB | apply Up.alloc | apply Up.drewN | apply Up.drew))⟩
      · have HS := Aside0.mk (show false = r by have h := HS.out; rw [show sameI a b i = false from beq_eq_false_iff_ne.mpr t1, Bool.false_and] at h; exact h)
        have t1n := bne_iff_ne.mpr t1; replace t1 := beq_eq_false_iff_ne.mpr t1
        go_wp2; repeat (go_quiet (fail); try go_wp2)
        go_ret
        exact ⟨ret_b HS.out, (by repeat (with_reducible first | exact HB | apply Up.alloc | apply Up.drewN | apply Up.drew))⟩
    · have HS := Aside0.mk ((allF_end (by omega : (a.length : Int) ≤ i)).symm.trans HS.out)
      replace hlt := decide_eq_false hlt
      go_wp2
      go_ret
      exact ⟨ret_b HS.out, HB⟩

end Go.Proofs.Ytcnamihkghiigaa.H
