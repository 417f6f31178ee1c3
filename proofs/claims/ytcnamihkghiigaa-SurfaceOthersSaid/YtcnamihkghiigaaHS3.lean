import Derived.Test.YtcnamihkghiigaaHK
import Derived.Test.YtcnamihkghiigaaHSp
namespace Go.Proofs.Ytcnamihkghiigaa.H
open Go.RowKit Go.Proofs.YtcnamihkghiigaaW.PrintWords Go.Proofs.YtcnamihkghiigaaW.PrintLast Go.Proofs.YtcnamihkghiigaaW.PrintMore
set_option linter.unusedVariables false
set_option linter.unusedSimpArgs false
/-! SurfaceTwice -/
set_option maxHeartbeats 8000000 in
theorem SurfaceTwice_c (A0 : Option Addr) (c0 : Nat) (l : List SSurface) (run a b : Int) (w : World) (ha : 0 ≤ a ∧ a ≤ 65535) (hb : 0 ≤ b ∧ b ≤ 65535) (hr0 : Kd.C kSurface w A0 l.length l) :
    Calls Try.prog 10 #[.slice A0 l.length c0, .int .i64 run, .int .u16 a, .int .u16 b] w fun e w' => e = .returned (.bool true) ∧ Up w w' := by
  have HR := Aside0.mk hr0
  have HA := Aside0.mk ha
  have HBB := Aside0.mk hb
  obtain ⟨r, hr⟩ : ∃ r, surR l = r := ⟨_, rfl⟩
  have HS := Aside0.mk hr
  obtain ⟨n, hn⟩ : ∃ n, Int.tmod a 5001 = n := ⟨_, rfl⟩
  obtain ⟨m, hm⟩ : ∃ m, Int.tmod b 5001 = m := ⟨_, rfl⟩
  have HN := Aside0.mk (show 0 ≤ n ∧ n ≤ 5000 by rw [← hn, Int.tmod_eq_emod_of_nonneg ha.1]; omega)
  have HM := Aside0.mk (show 0 ≤ m ∧ m ≤ 5000 by rw [← hm, Int.tmod_eq_emod_of_nonneg hb.1]; omega)
  have hwa : wrap64 a = a := by unfold wrap64; omega
  have hwb : wrap64 b = b := by unfold wrap64; omega
  have hka : IntKind.i64.wrap a = a := (i64_w _).trans hwa
  have hkb : IntKind.i64.wrap b = b := (i64_w _).trans hwb
  clear hr0 hr ha hb
  have hsum : wrap64 (n + m) = n + m := by have := HN.out; have := HM.out; unfold wrap64; omega
  have hsumk : IntKind.i64.wrap (n + m) = n + m := (i64_w _).trans hsum
  have HB := Up.refl w
  go_enter Try.func10, Try.ntmps10
  go_wp2_with fail
  (with_reducible refine (alive_c _).mono ?_)
  rintro e w1 ⟨rfl, HB1⟩
  by_cases t1 : 80 < (l.length : Int)
  · replace t1 := decide_eq_true t1
    go_wp2
    go_ret
    exact ⟨rfl, HB1⟩
  replace t1 := decide_eq_false t1
  go_wp2_with fail
  (with_reducible refine (SurRight_c A0 c0 l _ r HS.out (C_up HR.out HB1)).mono ?_)
  rintro e w2 ⟨rfl, hb⟩
  have HB2 := Up.step HB1 hb
  clear hb
  by_cases t2 : r = 0
  rotate_left
  · have t2n := bne_iff_ne.mpr t2; replace t2 := beq_eq_false_iff_ne.mpr t2
    go_wp2
    go_ret
    exact ⟨rfl, HB2⟩
  have hl64 := (surR_zero.1 (HS.out.trans t2)).1
  have HL := Aside0.mk hl64
  have hT := twice (run := run) (HS.out.trans t2) HN.out.1 HN.out.2 HM.out.1 HM.out.2
  have t2n := bne_eq_false_iff_eq.mpr t2; replace t2 := beq_iff_eq.mpr t2
  clear hl64
  rcases hT with hx | ⟨X, Y, hx, hxl, hy, hz⟩
  · have HX := Aside0.mk hx
    clear hx
    go_wp2_with fail
    (with_reducible refine (Descend_c A0 c0 l run n _ [] 8 HX.out (by have := HL.out; omega) (C_up HR.out HB2)).mono ?_)
    rintro e w3 ⟨v, rfl, hR, hb⟩
    obtain ⟨VA, vc, rfl, -, -⟩ := Kd.R_reads hR
    have HB3 := Up.step HB2 hb
    clear hb hR
    go_wp2
    go_ret
    exact ⟨rfl, HB3⟩
  · have HX := Aside0.mk hx
    have HXL := Aside0.mk hxl
    have HY := Aside0.mk hy
    have HZ := Aside0.mk hz
    clear hx hxl hy hz
    go_wp2_with fail
    (with_reducible refine (Descend_c A0 c0 l run n _ X 0 HX.out (by have := HL.out; omega) (C_up HR.out HB2)).mono ?_)
    rintro e w3 ⟨v, rfl, hR, hb⟩
    obtain ⟨XA, xc, rfl, -, hC⟩ := Kd.R_reads hR
    have HCx := Aside0.mk hC
    have HB3 := Up.step HB2 hb
    clear hb hR hC
    go_wp2_with fail
    (with_reducible refine (Descend_c XA xc X run m _ Y 0 HY.out (by have := HXL.out; omega) HCx.out).mono ?_)
    rintro e w4 ⟨v, rfl, hR, hb⟩
    obtain ⟨YA, yc, rfl, -, hC⟩ := Kd.R_reads hR
    have HCy := Aside0.mk hC
    have HB4 := Up.step HB3 hb
    clear hb hR hC
    go_wp2_with fail
    (with_reducible refine (Descend_c A0 c0 l run (n + m) _ Y 0 HZ.out (by have := HL.out; omega) (C_up HR.out HB4)).mono ?_)
    rintro e w5 ⟨v, rfl, hR, hb⟩
    obtain ⟨ZA, zc, rfl, -, hC⟩ := Kd.R_reads hR
    have HCz := Aside0.mk hC
    have HCy := Aside0.mk (C_up HCy.out hb)
    have HB5 := Up.step HB4 hb
    clear hb hR hC
    go_wp2_with fail
    (with_reducible refine (Same_c YA yc Y ZA zc Y true _ (sameS_refl Y) HCy.out HCz.out).mono ?_)
    rintro e w6 ⟨rfl, hb⟩
    have HB6 := Up.step HB5 hb
    clear hb
    go_wp2
    go_ret
    exact ⟨rfl, HB6⟩
theorem u16_wf {n : Int} (h : (Lit.int .u16 n).wf = true) : 0 ≤ n ∧ n ≤ 65535 := by
  simp only [Lit.wf, Bool.and_eq_true, decide_eq_true_eq] at h
  have h1 : IntKind.u16.min = 0 := by decide
  have h2 : IntKind.u16.max = 65535 := by decide
  omega

end Go.Proofs.Ytcnamihkghiigaa.H
