import Derived.Test.YtcnamihkghiigaaHK
import Derived.Test.YtcnamihkghiigaaHIxSurface
import Derived.Test.YtcnamihkghiigaaHEq
namespace Go.Proofs.Ytcnamihkghiigaa.H
open Go.RowKit Go.Proofs.YtcnamihkghiigaaW.PrintWords Go.Proofs.YtcnamihkghiigaaW.PrintLast Go.Proofs.YtcnamihkghiigaaW.PrintMore
set_option linter.unusedVariables false
set_option linter.unusedSimpArgs false
/-! surface.find, skiarearef48.index, Quality of both, Same, SameInts -/
attribute [local go_sem high] eqA32
def surX (l : List SSurface) (run : Int) : Int := idxF (fun i => (rd_Surface l i).f0 == run) (l.length - (0 : Int).toNat) 0
set_option maxHeartbeats 4000000 in
theorem findLit_c (B : Nat) (run : Int) (a0 a1 a2 : Int) (w : World) (hb : B < w.heap.size) (hc : w.cell? ⟨B, 0, none⟩ = some (.int .i64 run)) :
    Calls Try.prog 33 #[.agg #[.int .i64 a0, .int .i64 a1, .int .i64 a2], .pointer (some ⟨B, 0, none⟩)] w fun e w' => e = .returned (.bool (a0 == run)) ∧ Up w w' := by
  have hu := Try.underlying32
  have HB := Up.refl w
  go_enter Try.func33, Try.ntmps33
  go_wp2
  go_ret
  exact ⟨rfl, (by repeat (with_reducible first | exact HB | apply Up.alloc | apply Up.drewN | apply Up.drew))⟩
set_option maxHeartbeats 4000000 in
theorem surFind_c (A0 : Option Addr) (c0 : Nat) (l : List SSurface) (run : Int) (w : World) (r : Int) (h : surX l run = r) (hr0 : Kd.C kSurface w A0 l.length l) :
    Calls Try.prog 24 #[.slice A0 l.length c0, .int .i64 run] w fun e w' => e = .returned (.int .i64 r) ∧ Up w w' := by
  have HB := Up.refl w
  have HR := Aside0.mk hr0
  have HS := Aside0.mk (show idxF (fun i => (rd_Surface l i).f0 == run) (l.length - (0 : Int).toNat) 0 = r from h)
  clear h hr0
  go_enter Try.func24, Try.ntmps24
  go_wp2_with fail
  (with_reducible refine (IndexFunc_Surface_c 33 w.heap.size (fun i => (rd_Surface l i).f0 == run) r A0 c0 l _ HS.out (C_up HR.out (by repeat (with_reducible first | exact HB | apply Up.alloc | apply Up.drewN | apply Up.drew))) (fun args w => enters_ Try.func33 (by kernel_rfl) rfl args w) (fun W i hu h0 h1 => findLit_c _ run _ _ _ W (by have := hu.size; simp at this; omega) (((Up.cells hu).1 _ 0 (by simp)).trans (by simp)))).mono ?_)
  rintro e w' ⟨rfl, hb⟩
  have HB2 : Up w w' := Up.step (by repeat (with_reducible first | exact HB | apply Up.alloc | apply Up.drewN | apply Up.drew)) hb
  go_wp2
  go_ret
  exact ⟨rfl, HB2⟩
set_option maxHeartbeats 4000000 in
theorem surIndex_c (A0 : Option Addr) (c0 : Nat) (l : List SSurface) (run : Int) (w : World) (r : Int) (h : surX l run = r) (hr0 : Kd.C kSurface w A0 l.length l) :
    Calls Try.prog 26 #[.slice A0 l.length c0, .int .i64 run] w fun e w' => e = .returned (.int .i64 r) ∧ Up w w' := by
  have HB := Up.refl w
  have HR := Aside0.mk hr0
  have HM := Aside0.mk (Kd.C_max hr0)
  have HS := Aside0.mk (show idxF (fun i => (rd_Surface l i).f0 == run) (l.length - (0 : Int).toNat) 0 = r from h)
  clear h hr0
  go_enter Try.func26, Try.ntmps26
  go_wp2
  go_loopg [5] (l.length) (fun gk v5 w' => ∃ i : Int, v5 = .int .i64 i ∧ 0 ≤ i ∧ l.length - i.toNat ≤ gk ∧ Aside0 (idxF (fun i => (rd_Surface l i).f0 == run) (l.length - i.toNat) i = r) ∧ Up w w')
  case atStart => exact ⟨0, rfl, by omega, by omega, HS, HB⟩
  case round =>
    clear HS HB
    obtain ⟨i, rfl, hi, hg, HS, HB⟩ := hrel
    have HI := Aside0.mk hi
    by_cases hlt : i < l.length
    · have HS := Aside0.mk ((idxF_step hi hlt).symm.trans HS.out)
      have HL := Aside0.mk hlt
      obtain ⟨ad, rfl⟩ : ∃ ad, A0 = some ad := by obtain ⟨ad, c, e, _⟩ := Kd.C_get HR.out zSurface i hi hlt; exact ⟨ad, e⟩
      obtain ⟨hx0, hx1, hx2⟩ := rx_Surface HR.out
      have hlt2 := decide_eq_true hlt
      replace hi := eq_true hi; replace hlt := eq_true hlt
      by_cases hq : (rd_Surface l i).f0 = run
      · have HS := Aside0.mk ((if_pos (by simpa using hq)).symm.trans HS.out)
        have hqn := bne_eq_false_iff_eq.mpr hq; replace hq := beq_iff_eq.mpr hq
        go_wp2
        go_ret
        exact ⟨ret_i HS.out, (by repeat (with_reducible first | exact HB | apply Up.alloc | apply Up.drewN | apply Up.drew))⟩
      · have HS := Aside0.mk ((if_neg (by simpa using hq)).symm.trans HS.out)
        have hqn := bne_iff_ne.mpr hq; replace hq := beq_eq_false_iff_ne.mpr hq
        go_wp2
        go_roundg (gk - 1)
        case measure => have := HL.out; have := HI.out; omega
        case rel => exact ⟨i + 1, (by first | rfl | (simp; done) | (have := HL.out; have := HI.out; have := HM.out; congr 1; unfold wrap64; omega)), by have := HI.out; omega, by have := HL.out; have := HI.out; omega, HS, (by repeat (with_reducible first | exact HB | apply Up.alloc | apply Up.drewN | apply Up.drew))⟩
    · have HS := Aside0.mk ((idxF_end (by omega : (l.length : Int) ≤ i)).symm.trans HS.out)
      replace hlt := decide_eq_false hlt
      go_wp2
      go_ret
      exact ⟨ret_i HS.out, HB⟩

end Go.Proofs.Ytcnamihkghiigaa.H
