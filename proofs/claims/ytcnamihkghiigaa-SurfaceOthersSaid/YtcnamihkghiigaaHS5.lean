import Derived.Test.YtcnamihkghiigaaHK
import Derived.Test.YtcnamihkghiigaaHS5a
import Derived.Test.YtcnamihkghiigaaHS5b
import Derived.Test.YtcnamihkghiigaaHS5c
import Derived.Test.YtcnamihkghiigaaHS5d
namespace Go.Proofs.Ytcnamihkghiigaa.H
open Go.RowKit Go.Proofs.YtcnamihkghiigaaW.PrintWords Go.Proofs.YtcnamihkghiigaaW.PrintLast Go.Proofs.YtcnamihkghiigaaW.PrintMore
set_option linter.unusedVariables false
set_option linter.unusedSimpArgs false
/-! SurfaceOthers -/
set_option maxHeartbeats 16000000 in
set_option maxRecDepth 100000 in
theorem SurfaceOthers_c (A0 : Option Addr) (c0 : Nat) (l : List SSurface) (run t n : Int) (w : World) (hr0 : Kd.C kSurface w A0 l.length l) :
    Calls Try.prog 9 #[.slice A0 l.length c0, .int .i64 run, .int .i64 t, .int .i64 n] w fun e w' => e = .returned (.bool true) ∧ Up w w' := by
  obtain ⟨r, hr⟩ : ∃ r, surR l = r := ⟨_, rfl⟩
  by_cases t2 : r = 0
  · subst t2
    obtain ⟨la, ea, hga⟩ : ∃ (R : List SSurface) (e : Int), groomS l run t = (R, e) := ⟨_, _, rfl⟩
    obtain ⟨lb, eb, hgb⟩ : ∃ (R : List SSurface) (e : Int), descS l run n = (R, e) := ⟨_, _, rfl⟩
    rcases groom_keep hr hga with ⟨hea, rfl⟩ | ⟨rfl, hka⟩
    · rcases desc_keep hr hgb with ⟨heb, rfl⟩ | ⟨rfl, hkb⟩
      · exact Others0_c A0 c0 l run t n w hr0 hr ea hea hga eb heb hgb
      · exact Others1_c A0 c0 l lb run t n w hr0 hr ea hea hga hkb hgb
    · rcases desc_keep hr hgb with ⟨heb, rfl⟩ | ⟨rfl, hkb⟩
      · exact Others2_c A0 c0 l la run t n w hr0 hr hka hga eb heb hgb
      · exact Others3_c A0 c0 l la lb run t n w hr0 hr hka hga hkb hgb
  have HR := Aside0.mk hr0
  have HS := Aside0.mk hr
  have t2n := bne_iff_ne.mpr t2; replace t2 := beq_eq_false_iff_ne.mpr t2
  clear hr0 hr
  have HB := Up.refl w
  go_enter Try.func9, Try.ntmps9
  go_wp2_with fail
  (with_reducible refine (alive_c _).mono ?_)
  rintro e w1 ⟨rfl, HB1⟩
  by_cases t1 : 80 < (l.length : Int)
  · replace t1 := decide_eq_true t1
    go_wp2
    go_ret
    exact ⟨rfl, HB1⟩
  replace t1 := decide_eq_false t1
  go_wp2_with fail
  (with_reducible refine (SurRight_c A0 c0 l _ r HS.out (C_up HR.out HB1)).mono ?_)
  rintro e w2 ⟨rfl, hb⟩
  have HB2 := Up.step HB1 hb
  clear hb
  go_wp2
  go_ret
  exact ⟨rfl, HB2⟩

end Go.Proofs.Ytcnamihkghiigaa.H
