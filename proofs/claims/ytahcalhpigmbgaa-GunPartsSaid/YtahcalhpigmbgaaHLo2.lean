import Derived.Test.YtahcalhpigmbgaaHK
import Derived.Test.YtahcalhpigmbgaaHLo
namespace Go.Proofs.Ytahcalhpigmbgaa.H
open Go.RowKit Go.Proofs.YtahcalhpigmbgaaW.PrintWords Go.Proofs.YtahcalhpigmbgaaW.PrintLast Go.Proofs.YtahcalhpigmbgaaW.PrintMore
set_option linter.unusedVariables false
set_option linter.unusedSimpArgs false
/-! GunOutputs -/
theorem allF_all {p : Int → Bool} (h : ∀ j, p j = true) : ∀ (d : Nat) (i : Int), allF p d i = true := by
  intro d
  induction d with
  | zero => intro i; rfl
  | succ d ih => intro i; simp [allF, h, ih]
theorem sameS_refl (l : List SDraw) : sameS l l = true := by
  unfold sameS
  rw [allF_all (fun j => by simp [sameF])]
  simp
theorem DrawsC (A0 : Option Addr) (c0 : Nat) (ks : List SGunKind) (A1 : Int → Option Addr) (C1 : Int → Nat) (B0 : Option Addr) (d0 : Nat) (l : List SGun) (wet : Int) (w : World) (R : List SDraw)
    (h : drawsS ks l wet = R) (hn : l.length ≤ 90) (hr0 : RdGK w A0 ks A1 C1) (hr1 : Kd.C kGun w B0 l.length l) :
    Calls Try.prog 26 #[.slice A0 ks.length c0, .slice B0 l.length d0, .int .i64 wet] w fun e w' => ∃ A c, e = .returned (.slice A R.length c) ∧ Kd.C kDraw w' A R.length R ∧ Up w w' := by
  refine (Draws_c A0 c0 ks A1 C1 B0 d0 l wet w R h (by omega) hr0 hr1).mono fun e w' ⟨v, he, hv, hu⟩ => ?_
  obtain ⟨A, c, rfl, _, hC⟩ := Kd.R_reads hv
  exact ⟨A, c, he, hC, hu⟩
theorem DrawsRC (A0 : Option Addr) (c0 : Nat) (ks : List SGunKind) (A1 : Int → Option Addr) (C1 : Int → Nat) (B0 : Option Addr) (d0 : Nat) (l : List SGun) (wet : Int) (w : World) (R : List SDraw)
    (h : drawsS ks l wet = R) (hn : l.length ≤ 90) (hr0 : RdGK w A0 ks A1 C1) (hr1 : Kd.C kGun w B0 l.length l) :
    Calls Try.prog 27 #[.slice A0 ks.length c0, .slice B0 l.length d0, .int .i64 wet] w fun e w' => ∃ A c, e = .returned (.slice A R.length c) ∧ Kd.C kDraw w' A R.length R ∧ Up w w' := by
  refine (DrawsR_c A0 c0 ks A1 C1 B0 d0 l wet w R h (by omega) hr0 hr1).mono fun e w' ⟨v, he, hv, hu⟩ => ?_
  obtain ⟨A, c, rfl, _, hC⟩ := Kd.R_reads hv
  exact ⟨A, c, he, hC, hu⟩
theorem NeedsC (A0 : Option Addr) (c0 : Nat) (ks : List SGunKind) (A1 : Int → Option Addr) (C1 : Int → Nat) (B0 : Option Addr) (d0 : Nat) (l : List SGun) (w : World) (R : List SDraw)
    (h : needsS ks l = R) (hn : l.length ≤ 90) (hr0 : RdGK w A0 ks A1 C1) (hr1 : Kd.C kGun w B0 l.length l) :
    Calls Try.prog 28 #[.slice A0 ks.length c0, .slice B0 l.length d0] w fun e w' => ∃ A c, e = .returned (.slice A R.length c) ∧ Kd.C kDraw w' A R.length R ∧ Up w w' := by
  refine (Needs_c A0 c0 ks A1 C1 B0 d0 l w R h (by omega) hr0 hr1).mono fun e w' ⟨v, he, hv, hu⟩ => ?_
  obtain ⟨A, c, rfl, _, hC⟩ := Kd.R_reads hv
  exact ⟨A, c, he, hC, hu⟩
theorem NeedsRC (A0 : Option Addr) (c0 : Nat) (ks : List SGunKind) (A1 : Int → Option Addr) (C1 : Int → Nat) (B0 : Option Addr) (d0 : Nat) (l : List SGun) (w : World) (R : List SDraw)
    (h : needsS ks l = R) (hn : l.length ≤ 90) (hr0 : RdGK w A0 ks A1 C1) (hr1 : Kd.C kGun w B0 l.length l) :
    Calls Try.prog 29 #[.slice A0 ks.length c0, .slice B0 l.length d0] w fun e w' => ∃ A c, e = .returned (.slice A R.length c) ∧ Kd.C kDraw w' A R.length R ∧ Up w w' := by
  refine (NeedsR_c A0 c0 ks A1 C1 B0 d0 l w R h (by omega) hr0 hr1).mono fun e w' ⟨v, he, hv, hu⟩ => ?_
  obtain ⟨A, c, rfl, _, hC⟩ := Kd.R_reads hv
  exact ⟨A, c, he, hC, hu⟩
set_option maxHeartbeats 16000000 in
set_option maxRecDepth 100000 in
theorem GunOutputs_c (A0 : Option Addr) (c0 : Nat) (ks : List SGunKind) (A1 : Int → Option Addr) (C1 : Int → Nat) (B0 : Option Addr) (d0 : Nat) (l : List SGun) (wet : Int) (w : World) (hr0 : RdGK w A0 ks A1 C1) (hr1 : Kd.C kGun w B0 l.length l) :
    Calls Try.prog 5 #[.agg #[.slice A0 ks.length c0, .slice B0 l.length d0], .int .i64 wet] w fun e w' => e = .returned (.bool true) ∧ Up w w' := by
  have hu := Try.underlying25
  have hu2 := Try.underlying39
  have HB := Up.refl w
  have HR0 := Aside0.mk hr0
  have HR1 := Aside0.mk hr1
  obtain ⟨b, hb⟩ : ∃ b, rightB ks l = b := ⟨_, rfl⟩
  have HF := Aside0.mk hb
  clear hb hr0 hr1
  go_enter Try.func5, Try.ntmps5
  go_wp2_with fail
  (with_reducible refine (alive_c _).mono ?_)
  rintro e w1 ⟨rfl, hb⟩
  have hk := Up.blk hb (blk_new w _)
  have HB := Up.step (HB.alloc _) hb
  clear hb
  have q0 := (blk_cell hk 0).trans rfl
  have q1 := (blk_cell hk 1).trans rfl
  simp only [List.getElem?_toArray, List.getElem?_cons_zero, List.getElem?_cons_succ] at q0 q1
  go_wp2_with fail
  (with_reducible refine (right_c A0 c0 ks A1 C1 B0 d0 l b _ HF.out (HR0.out.up HB) (C_up HR1.out HB)).mono ?_)
  rintro e w2 ⟨rfl, hb⟩
  have hk := Up.blk hb hk
  have HB := Up.step HB hb
  clear hb q0 q1
  cases b
  · go_wp2
    go_ret
    exact ⟨rfl, HB⟩
  obtain ⟨hlk, hll, -, -⟩ := rightB_len HF.out
  have HLK := Aside0.mk hlk
  have HLL := Aside0.mk hll
  clear hlk hll
  have HR0 := Aside0.mk (HR0.out.up HB)
  have HR1 := Aside0.mk (C_up HR1.out HB)
  have HBW := Aside0.mk HB
  have k0 : ∀ W, Up w2 W → W.cell? ⟨w.heap.size, 0, none⟩ = some (.slice A0 ks.length c0) := fun W u => (blk_cell (Up.blk u hk) 0).trans rfl
  have k1 : ∀ W, Up w2 W → W.cell? ⟨w.heap.size, 1, none⟩ = some (.slice B0 l.length d0) := fun W u => (blk_cell (Up.blk u hk) 1).trans rfl
  clear HB hk
  obtain ⟨g, hg⟩ : ∃ g, g = w.heap.size := ⟨_, rfl⟩
  rw [← hg] at k0 k1 ⊢
  clear hg
  have K0 := Aside0.mk k0
  have K1 := Aside0.mk k1
  have HB := Up.refl w2
  go_wp2
  go_loopg [5] (ks.length) (fun gk v5 w' => ∃ i : Int, v5 = .int .i64 i ∧ 0 ≤ i ∧ ks.length - i.toNat ≤ gk ∧ Up w2 w')
  case atStart => exact ⟨0, rfl, by omega, by omega, HB⟩
  case round =>
    clear HB
    obtain ⟨i, rfl, hi, hg, HB⟩ := hrel
    have HI := Aside0.mk hi
    by_cases hlt : i < ks.length
    · have HL := Aside0.mk hlt
      have hlt2 := decide_eq_true hlt
      obtain ⟨ad, rfl⟩ : ∃ ad, A0 = some ad := by
        cases A0 with
        | none => have := HR0.out.1 rfl; omega
        | some ad => exact ⟨ad, rfl⟩
      obtain ⟨hx0, hx1, hx2, hx3⟩ := HR0.out.2.2.1 ad rfl
      have HC := Aside0.mk (HR0.out.2.2.2 i hi hlt)
      obtain ⟨o, ho⟩ : ∃ o, outS (rd_GunKind ks i) wet = o := ⟨_, rfl⟩
      have HO := Aside0.mk ho
      have X0 := Aside0.mk (fun W u => hx0 W i u hi hlt)
      have X1 := Aside0.mk (fun W u => hx1 W i u hi hlt)
      have X2 := Aside0.mk (fun W u => hx2 W i u hi hlt)
      have X3 := Aside0.mk (fun W u => hx3 W i u hi hlt)
      clear ho hx0 hx1 hx2 hx3
      replace hi := eq_true hi; replace hlt := eq_true hlt
      have HBA := Aside0.mk HB
      go_upto_region 8 with (fail)
      clear HB k0 k1
      first | (go_region_held3 (fun w' => Up w2 w' ∧ w'.cell? ⟨g, 0, none⟩ = some (.slice (some ad) ks.length c0) ∧ w'.cell? (ad.add (i.toNat * 4)) = some (.int .i64 (rd_GunKind ks i).f0) ∧ w'.cell? ⟨(ad.add (i.toNat * 4)).block, (ad.add (i.toNat * 4)).off + 1, none⟩ = some (.slice (A1 i) (rd_GunKind ks i).f1.length (C1 i)) ∧ w'.cell? ⟨(ad.add (i.toNat * 4)).block, (ad.add (i.toNat * 4)).off + 2, none⟩ = some (.int .i64 (rd_GunKind ks i).f2) ∧ w'.cell? ⟨(ad.add (i.toNat * 4)).block, (ad.add (i.toNat * 4)).off + 3, none⟩ = some (.int .i64 (rd_GunKind ks i).f3)) (first | (have hU_ := HBA.out.drew; exact ⟨hU_, K0.out _ hU_, X0.out _ hU_, X1.out _ hU_, X2.out _ hU_, X3.out _ hU_⟩) | (have hU_ : Up w2 _ := (by assumption); exact ⟨hU_, K0.out _ hU_, X0.out _ hU_, X1.out _ hU_, X2.out _ hU_, X3.out _ hU_⟩)) (first | (go_at_call 23; (refine (Output_c (rd_GunKind ks i) (A1 i) (C1 i) wet o _ HO.out (C_up HC.out.2 ?_)).mono ?_); (first | assumption | exact HBA.out.drew); rintro e w' ⟨rfl, hb⟩; have hU := Up.step (w := w2) (by first | assumption | exact HBA.out.drew) hb; clear hb) | (go_at_call 24; (refine (OutputR_c (rd_GunKind ks i) (A1 i) (C1 i) wet o _ HO.out (C_up HC.out.2 ?_)).mono ?_); (first | assumption | exact HBA.out.drew); rintro e w' ⟨rfl, hb⟩; have hU := Up.step (w := w2) (by first | assumption | exact HBA.out.drew) hb; clear hb))) | fail
      all_goals
        have HZ := Aside0.mk (show Up w2 _ by assumption)
        go_wp2
        go_roundg (gk - 1)
        case measure => have := HL.out; have := HI.out; omega
        case rel => exact ⟨i + 1, (by first | rfl | (simp; done) | (have := HL.out; have := HI.out; have := HLK.out; congr 1; unfold wrap64; omega)), by have := HI.out; omega, by have := HL.out; have := HI.out; omega, HZ.out⟩
    · replace hlt := decide_eq_false hlt
      have HBA := Aside0.mk HB
      obtain ⟨R, hR⟩ : ∃ R, drawsS ks l wet = R := ⟨_, rfl⟩
      obtain ⟨T, hT⟩ : ∃ T, needsS ks l = T := ⟨_, rfl⟩
      obtain ⟨p, hp⟩ : ∃ p, powerS ks l = p := ⟨_, rfl⟩
      have HR := Aside0.mk hR
      have HT := Aside0.mk hT
      have HP := Aside0.mk hp
      clear hR hT hp
      go_upto_region 10 with (fail)
      clear HB k0 k1
      first | (go_region_held3 (fun w' => Up w2 w' ∧ w'.cell? ⟨g, 0, none⟩ = some (.slice A0 ks.length c0) ∧ w'.cell? ⟨g, 1, none⟩ = some (.slice B0 l.length d0)) (first | (have hU_ := HBA.out.drew; exact ⟨hU_, K0.out _ hU_, K1.out _ hU_⟩) | (have hU_ : Up w2 _ := (by assumption); exact ⟨hU_, K0.out _ hU_, K1.out _ hU_⟩)) (first | (go_at_call 26; (refine (DrawsC A0 c0 ks A1 C1 B0 d0 l wet _ R HR.out HLL.out (HR0.out.up ?_) (C_up HR1.out ?_)).mono ?_); (first | assumption | exact HBA.out.drew); (first | assumption | exact HBA.out.drew); rintro e w' ⟨xA, xc, rfl, hC, hb⟩; have hU := Up.step (w := w2) (by first | assumption | exact HBA.out.drew) hb; have HCa := Aside0.mk hC; clear hb hC) | (go_at_call 27; (refine (DrawsRC A0 c0 ks A1 C1 B0 d0 l wet _ R HR.out HLL.out (HR0.out.up ?_) (C_up HR1.out ?_)).mono ?_); (first | assumption | exact HBA.out.drew); (first | assumption | exact HBA.out.drew); rintro e w' ⟨yA, yc, rfl, hC, hb⟩; have hU := Up.step (w := w2) (by first | assumption | exact HBA.out.drew) hb; have HCb := Aside0.mk hC; have HCa := Aside0.mk (C_up HCa.out hb); clear hb hC) | (go_at_call 28; (refine (NeedsC A0 c0 ks A1 C1 B0 d0 l _ T HT.out HLL.out (HR0.out.up ?_) (C_up HR1.out ?_)).mono ?_); (first | assumption | exact HBA.out.drew); (first | assumption | exact HBA.out.drew); rintro e w' ⟨xA, xc, rfl, hC, hb⟩; have hU := Up.step (w := w2) (by first | assumption | exact HBA.out.drew) hb; have HCa := Aside0.mk hC; clear hb hC) | (go_at_call 29; (refine (NeedsRC A0 c0 ks A1 C1 B0 d0 l _ T HT.out HLL.out (HR0.out.up ?_) (C_up HR1.out ?_)).mono ?_); (first | assumption | exact HBA.out.drew); (first | assumption | exact HBA.out.drew); rintro e w' ⟨yA, yc, rfl, hC, hb⟩; have hU := Up.step (w := w2) (by first | assumption | exact HBA.out.drew) hb; have HCb := Aside0.mk hC; have HCa := Aside0.mk (C_up HCa.out hb); clear hb hC) | (go_at_call 25; (refine (Same_c xA xc _ yA yc _ true _ (sameS_refl _) HCa.out HCb.out).mono ?_); rintro e w' ⟨rfl, hb⟩; have hU := Up.step (w := w2) (by first | assumption | exact HBA.out.drew) hb; clear hb) | (go_at_call 30; (refine (Power_c A0 c0 ks A1 C1 B0 d0 l p _ HP.out (by have := HLL.out; omega) (HR0.out.up ?_) (C_up HR1.out ?_)).mono ?_); (first | assumption | exact HBA.out.drew); (first | assumption | exact HBA.out.drew); rintro e w' ⟨rfl, hb⟩; have hU := Up.step (w := w2) (by first | assumption | exact HBA.out.drew) hb; clear hb) | (go_at_call 31; (refine (PowerR_c A0 c0 ks A1 C1 B0 d0 l p _ HP.out (HR0.out.up ?_) (C_up HR1.out ?_)).mono ?_); (first | assumption | exact HBA.out.drew); (first | assumption | exact HBA.out.drew); rintro e w' ⟨rfl, hb⟩; have hU := Up.step (w := w2) (by first | assumption | exact HBA.out.drew) hb; clear hb))) | fail
      all_goals
        have HZ := Aside0.mk (show Up w2 _ by assumption)
        go_wp2
        go_ret
        exact ⟨rfl, Up.step HBW.out HZ.out⟩

end Go.Proofs.Ytahcalhpigmbgaa.H
