import Derived.Test.YtcnamihkghiigaaHK
import Derived.Test.YtcnamihkghiigaaHSa
namespace Go.Proofs.Ytcnamihkghiigaa.H
open Go.RowKit Go.Proofs.YtcnamihkghiigaaW.PrintWords Go.Proofs.YtcnamihkghiigaaW.PrintLast Go.Proofs.YtcnamihkghiigaaW.PrintMore
set_option linter.unusedVariables false
set_option linter.unusedSimpArgs false
/-! SurfaceChecks, SurfaceGrooms, SurfaceDescends -/
theorem allF_all {p : Int → Bool} (h : ∀ j, p j = true) : ∀ (d : Nat) (i : Int), allF p d i = true := by
  intro d
  induction d with
  | zero => intro i; rfl
  | succ d ih => intro i; simp [allF, h, ih]
theorem sameS_refl (l : List SSurface) : sameS l l = true := by
  unfold sameS
  rw [allF_all (fun j => by simp [sameF])]
  simp
theorem surR_len {l : List SSurface} (h : surR l = 0) : l.length ≤ 64 := by
  unfold surR at h
  split at h
  · omega
  · omega
set_option maxHeartbeats 8000000 in
theorem SurfaceChecks_c (A0 : Option Addr) (c0 : Nat) (l : List SSurface) (w : World) (hr0 : Kd.C kSurface w A0 l.length l) :
    Calls Try.prog 3 #[.slice A0 l.length c0] w fun e w' => e = .returned (.bool true) ∧ Up w w' := by
  have HR := Aside0.mk hr0
  obtain ⟨r, hr⟩ : ∃ r, surR l = r := ⟨_, rfl⟩
  have HS := Aside0.mk hr
  clear hr0 hr
  have HB := Up.refl w
  go_enter Try.func3, Try.ntmps3
  go_wp2_with fail
  (with_reducible refine (alive_c _).mono ?_)
  rintro e w1 ⟨rfl, HB1⟩
  by_cases t1 : 80 < (l.length : Int)
  · replace t1 := decide_eq_true t1
    go_wp2
    go_ret
    exact ⟨rfl, HB1⟩
  · replace t1 := decide_eq_false t1
    go_wp2_with fail
    (with_reducible refine (SurRight_c A0 c0 l _ r HS.out (C_up HR.out HB1)).mono ?_)
    rintro e w2 ⟨rfl, hb⟩
    have HB2 := Up.step HB1 hb
    clear hb
    go_wp2_with fail
    (with_reducible refine (SurRightR_c A0 c0 l _ r HS.out (C_up HR.out HB2)).mono ?_)
    rintro e w3 ⟨rfl, hb⟩
    have HB3 := Up.step HB2 hb
    clear hb
    go_wp2
    go_ret
    exact ⟨by simp, HB3⟩
set_option maxHeartbeats 8000000 in
theorem SurfaceGrooms_c (A0 : Option Addr) (c0 : Nat) (l : List SSurface) (run t : Int) (w : World) (hr0 : Kd.C kSurface w A0 l.length l) :
    Calls Try.prog 4 #[.slice A0 l.length c0, .int .i64 run, .int .i64 t] w fun e w' => e = .returned (.bool true) ∧ Up w w' := by
  have HR := Aside0.mk hr0
  obtain ⟨r, hr⟩ : ∃ r, surR l = r := ⟨_, rfl⟩
  have HS := Aside0.mk hr
  obtain ⟨R, er, hg⟩ : ∃ (R : List SSurface) (e : Int), groomS l run t = (R, e) := ⟨_, _, rfl⟩
  have HG := Aside0.mk hg
  clear hr0 hr hg
  have HB := Up.refl w
  go_enter Try.func4, Try.ntmps4
  go_wp2_with fail
  (with_reducible refine (alive_c _).mono ?_)
  rintro e w1 ⟨rfl, HB1⟩
  go_wp2_with fail
  (with_reducible refine (SurRightR_c A0 c0 l _ r HS.out (C_up HR.out HB1)).mono ?_)
  rintro e w2 ⟨rfl, hb⟩
  have HB2 := Up.step HB1 hb
  clear hb
  by_cases t1 : r = 0
  rotate_left
  · have t1n := bne_iff_ne.mpr t1; replace t1 := beq_eq_false_iff_ne.mpr t1
    go_wp2
    go_ret
    exact ⟨rfl, HB2⟩
  have HN := Aside0.mk (surR_len (HS.out.trans t1))
  have t1n := bne_eq_false_iff_eq.mpr t1; replace t1 := beq_iff_eq.mpr t1
  go_wp2_with fail
  (with_reducible refine (Groom_c A0 c0 l run t _ R er HG.out (by have := HN.out; omega) (C_up HR.out HB2)).mono ?_)
  rintro e w3 ⟨v, rfl, hR, hb⟩
  obtain ⟨VA, vc, rfl, -, hC⟩ := Kd.R_reads hR
  have HCa := Aside0.mk hC
  have HB3 := Up.step HB2 hb
  clear hb hR hC
  go_wp2_with fail
  (with_reducible refine (GroomR_c A0 c0 l run t _ R er HG.out (by have := HN.out; omega) (C_up HR.out HB3)).mono ?_)
  rintro e w4 ⟨v, rfl, hR, hb⟩
  obtain ⟨XA, xc, rfl, -, hC⟩ := Kd.R_reads hR
  have HCa := Aside0.mk (C_up HCa.out hb)
  have HCb := Aside0.mk hC
  have HB4 := Up.step HB3 hb
  clear hb hR hC
  go_wp2_with fail
  (with_reducible refine (Same_c VA vc R XA xc R true _ (sameS_refl R) HCa.out HCb.out).mono ?_)
  rintro e w5 ⟨rfl, hb⟩
  have HB5 := Up.step HB4 hb
  clear hb
  go_wp2
  go_ret
  exact ⟨by simp, HB5⟩
set_option maxHeartbeats 8000000 in
theorem SurfaceDescends_c (A0 : Option Addr) (c0 : Nat) (l : List SSurface) (run t : Int) (w : World) (hr0 : Kd.C kSurface w A0 l.length l) :
    Calls Try.prog 5 #[.slice A0 l.length c0, .int .i64 run, .int .i64 t] w fun e w' => e = .returned (.bool true) ∧ Up w w' := by
  have HR := Aside0.mk hr0
  obtain ⟨r, hr⟩ : ∃ r, surR l = r := ⟨_, rfl⟩
  have HS := Aside0.mk hr
  obtain ⟨R, er, hg⟩ : ∃ (R : List SSurface) (e : Int), descS l run t = (R, e) := ⟨_, _, rfl⟩
  have HG := Aside0.mk hg
  clear hr0 hr hg
  have HB := Up.refl w
  go_enter Try.func5, Try.ntmps5
  go_wp2_with fail
  (with_reducible refine (alive_c _).mono ?_)
  rintro e w1 ⟨rfl, HB1⟩
  go_wp2_with fail
  (with_reducible refine (SurRightR_c A0 c0 l _ r HS.out (C_up HR.out HB1)).mono ?_)
  rintro e w2 ⟨rfl, hb⟩
  have HB2 := Up.step HB1 hb
  clear hb
  by_cases t1 : r = 0
  rotate_left
  · have t1n := bne_iff_ne.mpr t1; replace t1 := beq_eq_false_iff_ne.mpr t1
    go_wp2
    go_ret
    exact ⟨rfl, HB2⟩
  have HN := Aside0.mk (surR_len (HS.out.trans t1))
  have t1n := bne_eq_false_iff_eq.mpr t1; replace t1 := beq_iff_eq.mpr t1
  go_wp2_with fail
  (with_reducible refine (Descend_c A0 c0 l run t _ R er HG.out (by have := HN.out; omega) (C_up HR.out HB2)).mono ?_)
  rintro e w3 ⟨v, rfl, hR, hb⟩
  obtain ⟨VA, vc, rfl, -, hC⟩ := Kd.R_reads hR
  have HCa := Aside0.mk hC
  have HB3 := Up.step HB2 hb
  clear hb hR hC
  go_wp2_with fail
  (with_reducible refine (DescendR_c A0 c0 l run t _ R er HG.out (by have := HN.out; omega) (C_up HR.out HB3)).mono ?_)
  rintro e w4 ⟨v, rfl, hR, hb⟩
  obtain ⟨XA, xc, rfl, -, hC⟩ := Kd.R_reads hR
  have HCa := Aside0.mk (C_up HCa.out hb)
  have HCb := Aside0.mk hC
  have HB4 := Up.step HB3 hb
  clear hb hR hC
  go_wp2_with fail
  (with_reducible refine (Same_c VA vc R XA xc R true _ (sameS_refl R) HCa.out HCb.out).mono ?_)
  rintro e w5 ⟨rfl, hb⟩
  have HB5 := Up.step HB4 hb
  clear hb
  go_wp2
  go_ret
  exact ⟨by simp, HB5⟩

end Go.Proofs.Ytcnamihkghiigaa.H
