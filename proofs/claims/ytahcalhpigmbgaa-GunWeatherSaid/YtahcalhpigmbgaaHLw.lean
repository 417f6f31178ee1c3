import Derived.Test.YtahcalhpigmbgaaHK
import Derived.Test.YtahcalhpigmbgaaHLw1
import Derived.Test.YtahcalhpigmbgaaHHd
namespace Go.Proofs.Ytahcalhpigmbgaa.H
open Go.RowKit Go.Proofs.YtahcalhpigmbgaaW.PrintWords Go.Proofs.YtahcalhpigmbgaaW.PrintLast Go.Proofs.YtahcalhpigmbgaaW.PrintMore
set_option linter.unusedVariables false
set_option linter.unusedSimpArgs false
/-! GunWeather -/
theorem drop_head {α : Type} {xs : List α} {k : Nat} {y : α} {r : List α} (h : xs.drop k = y :: r) : k < xs.length ∧ xs[k]? = some y ∧ xs.drop (k + 1) = r := by
  have h1 : k < xs.length := by
    rcases Nat.lt_or_ge k xs.length with h1 | h1
    · exact h1
    · rw [List.drop_eq_nil_of_le h1] at h; cases h
  rw [List.drop_eq_getElem_cons h1] at h
  injection h with h2 h3
  exact ⟨h1, by rw [List.getElem?_eq_getElem h1, h2], h3⟩
theorem rd_head {xs : List SDraw} {k : Int} {y : SDraw} (h : xs[k.toNat]? = some y) : rd_Draw xs k = y := by
  unfold rd_Draw; rw [List.getD_eq_getElem?_getD, h]; rfl
theorem join7 {α β γ δ ε ζ η : Type} {F : α → β → γ → δ → ε → ζ → η → Prop} {G : Prop} {P : α → β → γ → δ → ε → ζ → η → Prop} (step : (∀ a b c d e f g, F a b c d e f g → P a b c d e f g) → G) (rest : ∀ a b c d e f g, F a b c d e f g → P a b c d e f g) : G := step rest
set_option maxHeartbeats 16000000 in
set_option maxRecDepth 100000 in
theorem GunWeather_c (A0 : Option Addr) (c0 : Nat) (ks : List SGunKind) (A1 : Int → Option Addr) (C1 : Int → Nat) (B0 : Option Addr) (d0 : Nat) (l : List SGun) (t0 t1 : Int) (w : World) (hr0 : RdGK w A0 ks A1 C1) (hr1 : Kd.C kGun w B0 l.length l) :
    Calls Try.prog 7 #[.agg #[.slice A0 ks.length c0, .slice B0 l.length d0], .agg #[.int .i64 t0, .int .i64 t1]] w fun e w' => e = .returned (.bool true) ∧ Up w w' := by
  have hu := Try.underlying25
  have hu2 := Try.underlying31
  have hu3 := Try.underlying53
  have HB := Up.refl w
  have HR0 := Aside0.mk hr0
  have HR1 := Aside0.mk hr1
  obtain ⟨b, hb⟩ : ∃ b, rightB ks l = b := ⟨_, rfl⟩
  have HF := Aside0.mk hb
  clear hb hr0 hr1
  go_enter Try.func7, Try.ntmps7
  go_wp2_with fail
  (with_reducible refine (alive_c _).mono ?_)
  rintro e w1 ⟨rfl, hb⟩
  have hk := Up.blk hb (blk_alloc (blk_new w _) _)
  have hk3 := Up.blk hb (blk_2 w _ _)
  have HB := Up.step ((HB.alloc _).alloc _) hb
  clear hb
  have q0 := (blk_cell hk 0).trans rfl
  have q1 := (blk_cell hk 1).trans rfl
  simp only [List.getElem?_toArray, List.getElem?_cons_zero, List.getElem?_cons_succ] at q0 q1
  go_wp2_with fail
  (with_reducible refine (right_c A0 c0 ks A1 C1 B0 d0 l b _ HF.out (HR0.out.up HB) (C_up HR1.out HB)).mono ?_)
  rintro e w2 ⟨rfl, hb⟩
  have hk := Up.blk hb hk
  have hk3 := Up.blk hb hk3
  have HB := Up.step HB hb
  clear hb q0 q1
  cases b
  · go_wp2
    go_ret
    exact ⟨rfl, HB⟩
  obtain ⟨hlk, hll, -, hrt⟩ := rightB_len HF.out
  have HLK := Aside0.mk hlk
  have HLL := Aside0.mk hll
  have HRT := Aside0.mk hrt
  clear hlk hll hrt
  have HR0 := Aside0.mk (HR0.out.up HB)
  have HR1 := Aside0.mk (C_up HR1.out HB)
  have HBW := Aside0.mk HB
  obtain ⟨g, hg⟩ : ∃ g, g = w.heap.size := ⟨_, rfl⟩
  obtain ⟨g3, hg3⟩ : ∃ g3, g3 = g + 1 := ⟨_, rfl⟩
  rw [← hg] at hk hk3 ⊢
  rw [← hg3] at hk3 ⊢
  clear hg hg3
  have K0 := Aside0.mk (show ∀ W, Up w2 W → W.cell? ⟨g, 0, none⟩ = some (.slice A0 ks.length c0) from fun W u => (blk_cell (Up.blk u hk) 0).trans rfl)
  have K1 := Aside0.mk (show ∀ W, Up w2 W → W.cell? ⟨g, 1, none⟩ = some (.slice B0 l.length d0) from fun W u => (blk_cell (Up.blk u hk) 1).trans rfl)
  have T0 := Aside0.mk (show ∀ W, Up w2 W → W.cell? ⟨g3, 0, none⟩ = some (.int .i64 t0) from fun W u => (blk_cell (Up.blk u hk3) 0).trans rfl)
  have T1 := Aside0.mk (show ∀ W, Up w2 W → W.cell? ⟨g3, 1, none⟩ = some (.int .i64 t1) from fun W u => (blk_cell (Up.blk u hk3) 1).trans rfl)
  clear HB hk hk3
  obtain ⟨lo, hlo⟩ : ∃ lo, (if t1 < t0 then t1 else t0) = lo := ⟨_, rfl⟩
  obtain ⟨hi, hhi⟩ : ∃ hi, (if t0 < t1 then t1 else t0) = hi := ⟨_, rfl⟩
  have HLH := Aside0.mk (show lo ≤ hi by rw [← hlo, ← hhi]; split <;> split <;> omega)
  obtain ⟨Ra, hRa⟩ : ∃ R, drawsS ks l lo = R := ⟨_, rfl⟩
  obtain ⟨Rb, hRb⟩ : ∃ R, drawsS ks l hi = R := ⟨_, rfl⟩
  obtain ⟨Rn, hRn⟩ : ∃ R, needsS ks l = R := ⟨_, rfl⟩
  have HRa := Aside0.mk hRa
  have HRb := Aside0.mk hRb
  have HRn := Aside0.mk hRn
  clear hRa hRb hRn
  go_upto_region 5 with (fail)
  apply join7 (F := fun (X : World) (aA : Option Addr) (ac : Nat) (bA : Option Addr) (bc : Nat) (nA : Option Addr) (nc : Nat) => Up w2 X ∧ Kd.C kDraw X aA Ra.length Ra ∧ Kd.C kDraw X bA Rb.length Rb ∧ Kd.C kDraw X nA Rn.length Rn)
  · intro key
    first | (go_region_held3 (fun w' => Up w2 w' ∧ w'.cell? ⟨g, 0, none⟩ = some (.slice A0 ks.length c0) ∧ w'.cell? ⟨g, 1, none⟩ = some (.slice B0 l.length d0) ∧ w'.cell? ⟨g3, 0, none⟩ = some (.int .i64 t0) ∧ w'.cell? ⟨g3, 1, none⟩ = some (.int .i64 t1)) (first | (have hU_ := (Up.refl w2).drew; exact ⟨hU_, K0.out _ hU_, K1.out _ hU_, T0.out _ hU_, T1.out _ hU_⟩) | (have hU_ : Up w2 _ := (by assumption); exact ⟨hU_, K0.out _ hU_, K1.out _ hU_, T0.out _ hU_, T1.out _ hU_⟩)) (first | (go_at_call 26; (with_reducible refine (DrawsC A0 c0 ks A1 C1 B0 d0 l lo _ Ra HRa.out HLL.out (HR0.out.up ?_) (C_up HR1.out ?_)).mono ?_); (first | assumption | exact (Up.refl w2).drew); (first | assumption | exact (Up.refl w2).drew); rintro e w' ⟨aA, ac, rfl, hC, hb⟩; have hU := Up.step (w := w2) (by first | assumption | exact (Up.refl w2).drew) hb; have HCa := Aside0.mk hC; clear hb hC) | (go_at_call 26; (with_reducible refine (DrawsC A0 c0 ks A1 C1 B0 d0 l hi _ Rb HRb.out HLL.out (HR0.out.up ?_) (C_up HR1.out ?_)).mono ?_); (first | assumption | exact (Up.refl w2).drew); (first | assumption | exact (Up.refl w2).drew); rintro e w' ⟨bA, bc, rfl, hC, hb⟩; have hU := Up.step (w := w2) (by first | assumption | exact (Up.refl w2).drew) hb; have HCa := Aside0.mk (C_up HCa.out hb); have HCb := Aside0.mk hC; clear hb hC) | (go_at_call 28; (with_reducible refine (NeedsC A0 c0 ks A1 C1 B0 d0 l _ Rn HRn.out HLL.out (HR0.out.up ?_) (C_up HR1.out ?_)).mono ?_); (first | assumption | exact (Up.refl w2).drew); (first | assumption | exact (Up.refl w2).drew); rintro e w' ⟨nA, nc, rfl, hC, hb⟩; have hU := Up.step (w := w2) (by first | assumption | exact (Up.refl w2).drew) hb; have HCa := Aside0.mk (C_up HCa.out hb); have HCb := Aside0.mk (C_up HCb.out hb); have HCn := Aside0.mk hC; clear hb hC))) | fail
    all_goals exact key _ aA ac bA bc nA nc ⟨hU, HCa.out, HCb.out, HCn.out⟩
  rintro X aA ac bA bc nA nc ⟨hUX, hCa, hCb, hCn⟩
  have HCa := Aside0.mk hCa
  have HCb := Aside0.mk hCb
  have HCn := Aside0.mk hCn
  have HUX := Aside0.mk hUX
  have k0 := K0.out _ hUX
  have k1 := K1.out _ hUX
  clear hCa hCb hCn hUX
  have HB := Up.refl X
  have KX1 := Aside0.mk (fun W (u : Up X W) => K1.out W (Up.step HUX.out u))
  have KX0 := Aside0.mk (fun W (u : Up X W) => K0.out W (Up.step HUX.out u))
  have hk1 := KX1.out
  have HR0 := Aside0.mk (HR0.out.up HUX.out)
  have HR1 := Aside0.mk (C_up HR1.out HUX.out)
  go_wp2
  go_loopg [8, 9] (l.length) (fun gk v8 v9 w' => ∃ i k : Int, v9 = .int .i64 i ∧ v8 = .int .i64 k ∧ 0 ≤ i ∧ 0 ≤ k ∧ k ≤ i ∧ i ≤ l.length ∧ l.length - i.toNat ≤ gk ∧ Aside0 (k ≤ Ra.length ∧ k ≤ Rb.length ∧ k ≤ Rn.length) ∧ Aside0 (Ra.drop k.toNat = drawsF (fun i => outS (kindK ks (rd_Gun l i).f3) lo) l (l.length - i.toNat) i) ∧ Aside0 (Rb.drop k.toNat = drawsF (fun i => outS (kindK ks (rd_Gun l i).f3) hi) l (l.length - i.toNat) i) ∧ Aside0 (Rn.drop k.toNat = drawsF (fun i => (kindK ks (rd_Gun l i).f3).f3) l (l.length - i.toNat) i) ∧ Up X w')
  case atStart => exact ⟨0, 0, rfl, rfl, by omega, by omega, by omega, by omega, by omega, ⟨by omega⟩, ⟨HRa.out.symm⟩, ⟨HRb.out.symm⟩, ⟨HRn.out.symm⟩, HB⟩
  case round =>
    clear HB k0 k1
    obtain ⟨i, k, rfl, rfl, hi0, hk0, hki, hil, hg, HKL, HA, HBb, HN, HB⟩ := hrel
    have HI := Aside0.mk hi0
    have HK := Aside0.mk hk0
    have HKI := Aside0.mk hki
    have HIL := Aside0.mk hil
    have HG := Aside0.mk hg
    clear hg hki hil
    by_cases hlt : i < l.length
    rotate_left
    · have HZ := Aside0.mk (show Ra.length = k.toNat ∧ Rb.length = k.toNat ∧ Rn.length = k.toNat by
        have e1 := HA.out; have e2 := HBb.out; have e3 := HN.out; have := HKL.out
        rw [drawsF_end (by omega)] at e1 e2 e3
        have f1 := List.drop_eq_nil_iff.1 e1; have f2 := List.drop_eq_nil_iff.1 e2; have f3 := List.drop_eq_nil_iff.1 e3
        omega)
      obtain ⟨p, hp⟩ : ∃ p, powerS ks l = p := ⟨_, rfl⟩
      have HP := Aside0.mk hp
      have HP0 := Aside0.mk (show 0 ≤ p by rw [← hp]; exact power_rng HRT.out HLL.out)
      have HPz := Aside0.mk (show k = 0 → p = 0 by
        intro hk
        have e : Rn = [] := List.length_eq_zero_iff.1 (by have := HZ.out.2.2; omega)
        rw [← hp]; unfold powerS
        exact powF_none _ 0 0 (HRn.out.trans e))
      have z1 : ((Ra.length : Int) == k) = true := beq_iff_eq.mpr (by have := HZ.out; omega)
      have z2 : ((Rb.length : Int) == k) = true := beq_iff_eq.mpr (by have := HZ.out; omega)
      have z3 : ((Rn.length : Int) == k) = true := beq_iff_eq.mpr (by have := HZ.out; omega)
      have k0 := KX0.out _ HB
      have k1 := KX1.out _ HB
      have p0 := decide_eq_true (show 0 ≤ p from HP0.out)
      have HBA := Aside0.mk HB
      clear hp hi0
      replace hlt := decide_eq_false hlt
      by_cases hkk : 0 < k
      · replace hkk := decide_eq_true hkk
        go_wp2_with fail
        clear k0 k1
        (with_reducible refine (Power_c A0 c0 ks A1 C1 B0 d0 l p _ HP.out (by have := HLL.out; omega) (HR0.out.up HBA.out) (C_up HR1.out HBA.out)).mono ?_)
        rintro e w5 ⟨rfl, hb⟩
        have HB5 := Aside0.mk (Up.step HBA.out hb)
        clear hb
        go_wp2
        go_ret
        exact ⟨rfl, Up.step HBW.out (Up.step HUX.out HB5.out)⟩
      · have hkz : k = 0 := by have := HK.out; omega
        have hpz := beq_iff_eq.mpr (HPz.out hkz)
        replace hkk := decide_eq_false hkk
        clear hk0 hkz
        go_wp2_with fail
        clear k0 k1
        (with_reducible refine (Power_c A0 c0 ks A1 C1 B0 d0 l p _ HP.out (by have := HLL.out; omega) (HR0.out.up HBA.out) (C_up HR1.out HBA.out)).mono ?_)
        rintro e w5 ⟨rfl, hb⟩
        have HB5 := Aside0.mk (Up.step HBA.out hb)
        have k0 := KX0.out _ HB5.out
        have k1 := KX1.out _ HB5.out
        clear hb
        go_wp2_with fail
        clear k0 k1
        (with_reducible refine (Power_c A0 c0 ks A1 C1 B0 d0 l p _ HP.out (by have := HLL.out; omega) (HR0.out.up HB5.out) (C_up HR1.out HB5.out)).mono ?_)
        rintro e w6 ⟨rfl, hb⟩
        have HB6 := Aside0.mk (Up.step HB5.out hb)
        clear hb
        go_wp2
        go_ret
        exact ⟨rfl, Up.step HBW.out (Up.step HUX.out HB6.out)⟩
    have HL := Aside0.mk hlt
    have hA := HA.out
    have hB := HBb.out
    have hN := HN.out
    rw [drawsF_step hi0 hlt] at hA hB hN
    obtain ⟨gd, rfl⟩ : ∃ ad, B0 = some ad := by obtain ⟨ad, c, e, _⟩ := Kd.C_get HR1.out zGun i hi0 hlt; exact ⟨ad, e⟩
    obtain ⟨hy0, hy1, hy2, hy3, hy4, hy5, hy6, hy7⟩ := rx_Gun HR1.out
    have G1 := Aside0.mk (fun W u => hy1 W i u hi0 hlt)
    have G4 := hy4 _ i HB hi0 hlt
    have hrk := right_kind HRT.out hi0 hlt
    have hom := out_mono hrk.1 HLH.out
    have hlt2 := decide_eq_true hlt
    have k1 := KX1.out _ HB
    have HBA := Aside0.mk HB
    clear hy0 hy1 hy2 hy3 hy4 hy5 hy6 hy7 hrk
    by_cases t4 : (rd_Gun l i).f4 = 1
    rotate_left
    · rw [if_neg t4] at hA hB hN
      have HA2 := Aside0.mk hA
      have HB2 := Aside0.mk hB
      have HN2 := Aside0.mk hN
      clear hA hB hN hom
      have t4n := bne_iff_ne.mpr t4; replace t4 := beq_eq_false_iff_ne.mpr t4
      replace hi0 := eq_true hi0; replace hlt := eq_true hlt
      go_wp2
      go_roundg (gk - 1)
      case measure => have := HL.out; have := HI.out; have := HG.out; omega
      case rel => exact ⟨i + 1, k, (by first | rfl | (simp; done) | (have := HL.out; have := HI.out; have := HLL.out; congr 1; unfold wrap64; omega)), rfl, by have := HI.out; omega, HK.out, by have := HKI.out; omega, by have := HL.out; omega, by have := HL.out; have := HI.out; have := HG.out; omega, HKL, HA2, HB2, HN2, HBA.out⟩
    · rw [if_pos t4] at hA hB hN
      obtain ⟨nd, hnd⟩ : ∃ x, (rd_Gun l i).f1 = x := ⟨_, rfl⟩
      obtain ⟨fa, hfa⟩ : ∃ x, outS (kindK ks (rd_Gun l i).f3) lo = x := ⟨_, rfl⟩
      obtain ⟨fb, hfb⟩ : ∃ x, outS (kindK ks (rd_Gun l i).f3) hi = x := ⟨_, rfl⟩
      obtain ⟨fn, hfn⟩ : ∃ x, (kindK ks (rd_Gun l i).f3).f3 = x := ⟨_, rfl⟩
      simp only [hnd, hfa] at hA
      simp only [hnd, hfb] at hB
      simp only [hnd, hfn] at hN
      rw [hfa, hfb] at hom
      rw [hnd] at G1
      have l1 := decide_eq_false (show ¬ fa < fb by omega)
      have l2 := decide_eq_false (show ¬ fb < 0 by omega)
      clear hom hnd hfa hfb hfn
      have ha := hA
      have hb := hB
      have hn := hN
      clear hA hB hN
      obtain ⟨hla, hya, hra⟩ := drop_head ha
      have hda := rd_head hya
      have hkla : k < Ra.length := by omega
      obtain ⟨xa, rfl⟩ : ∃ ad, aA = some ad := by obtain ⟨ad, c, e, _⟩ := Kd.C_get HCa.out zDraw k hk0 hkla; exact ⟨ad, e⟩
      obtain ⟨hz0, hz1⟩ := rx_Draw HCa.out
      have PA0 := Aside0.mk (show ∀ W, Up X W → W.cell? (xa.add (k.toNat * 2)) = some (.int .i64 nd) from fun W u => by have h := hz0 W k u hk0 hkla; rw [hda] at h; exact h)
      have PA1 := Aside0.mk (show ∀ W, Up X W → W.cell? ⟨(xa.add (k.toNat * 2)).block, (xa.add (k.toNat * 2)).off + 1, none⟩ = some (.int .i64 fa) from fun W u => by have h := hz1 W k u hk0 hkla; rw [hda] at h; exact h)
      have HDa := Aside0.mk hra
      have lea := decide_eq_false (show ¬ (Ra.length : Int) ≤ k by omega)
      clear hla hya hra hda hz0 hz1 ha
      obtain ⟨hlb, hyb, hrb⟩ := drop_head hb
      have hdb := rd_head hyb
      have hklb : k < Rb.length := by omega
      obtain ⟨xb, rfl⟩ : ∃ ad, bA = some ad := by obtain ⟨ad, c, e, _⟩ := Kd.C_get HCb.out zDraw k hk0 hklb; exact ⟨ad, e⟩
      obtain ⟨hz0, hz1⟩ := rx_Draw HCb.out
      have PB0 := Aside0.mk (show ∀ W, Up X W → W.cell? (xb.add (k.toNat * 2)) = some (.int .i64 nd) from fun W u => by have h := hz0 W k u hk0 hklb; rw [hdb] at h; exact h)
      have PB1 := Aside0.mk (show ∀ W, Up X W → W.cell? ⟨(xb.add (k.toNat * 2)).block, (xb.add (k.toNat * 2)).off + 1, none⟩ = some (.int .i64 fb) from fun W u => by have h := hz1 W k u hk0 hklb; rw [hdb] at h; exact h)
      have HDb := Aside0.mk hrb
      have leb := decide_eq_false (show ¬ (Rb.length : Int) ≤ k by omega)
      clear hlb hyb hrb hdb hz0 hz1 hb
      obtain ⟨hln, hyn, hrn⟩ := drop_head hn
      have hdn := rd_head hyn
      have hkln : k < Rn.length := by omega
      obtain ⟨xn, rfl⟩ : ∃ ad, nA = some ad := by obtain ⟨ad, c, e, _⟩ := Kd.C_get HCn.out zDraw k hk0 hkln; exact ⟨ad, e⟩
      obtain ⟨hz0, hz1⟩ := rx_Draw HCn.out
      have PN0 := Aside0.mk (show ∀ W, Up X W → W.cell? (xn.add (k.toNat * 2)) = some (.int .i64 nd) from fun W u => by have h := hz0 W k u hk0 hkln; rw [hdn] at h; exact h)
      have PN1 := Aside0.mk (show ∀ W, Up X W → W.cell? ⟨(xn.add (k.toNat * 2)).block, (xn.add (k.toNat * 2)).off + 1, none⟩ = some (.int .i64 fn) from fun W u => by have h := hz1 W k u hk0 hkln; rw [hdn] at h; exact h)
      have HDn := Aside0.mk hrn
      have len := decide_eq_false (show ¬ (Rn.length : Int) ≤ k by omega)
      clear hln hyn hrn hdn hz0 hz1 hn
      have HKL2 := Aside0.mk (show k + 1 ≤ Ra.length ∧ k + 1 ≤ Rb.length ∧ k + 1 ≤ Rn.length by omega)
      have t4n := bne_eq_false_iff_eq.mpr t4; replace t4 := beq_iff_eq.mpr t4
      replace hi0 := eq_true hi0; replace hlt := eq_true hlt; replace hk0 := eq_true hk0; replace hkla := eq_true hkla; replace hklb := eq_true hklb; replace hkln := eq_true hkln
      go_upto_region 11 with (fail)
      clear HB k1 G4
      have hU := HBA.out.drew
      refine wp_region_held_drew (S := fun w' => Up X w' ∧ w'.cell? ⟨g, 0, none⟩ = some (.slice A0 ks.length c0) ∧ w'.cell? ⟨g, 1, none⟩ = some (.slice (some gd) l.length d0) ∧ w'.cell? ⟨(gd.add (i.toNat * 8)).block, (gd.add (i.toNat * 8)).off + 1, none⟩ = some (.int .i64 nd) ∧ w'.cell? (xa.add (k.toNat * 2)) = some (.int .i64 nd) ∧ w'.cell? ⟨(xa.add (k.toNat * 2)).block, (xa.add (k.toNat * 2)).off + 1, none⟩ = some (.int .i64 fa) ∧ w'.cell? (xb.add (k.toNat * 2)) = some (.int .i64 nd) ∧ w'.cell? ⟨(xb.add (k.toNat * 2)).block, (xb.add (k.toNat * 2)).off + 1, none⟩ = some (.int .i64 fb) ∧ w'.cell? (xn.add (k.toNat * 2)) = some (.int .i64 nd) ∧ w'.cell? ⟨(xn.add (k.toNat * 2)).block, (xn.add (k.toNat * 2)).off + 1, none⟩ = some (.int .i64 fn)) (by kernel_rfl) (⟨hU, KX0.out _ hU, KX1.out _ hU, G1.out _ hU, PA0.out _ hU, PA1.out _ hU, PB0.out _ hU, PB1.out _ hU, PN0.out _ hU, PN1.out _ hU⟩) (fun hHeld => ?_)
      clear hU
      (refine take_on 0 54 (v := ?_) rfl rfl (by kernel_rfl) (by kernel_rfl) (by kernel_rfl) (fun _ _ _ h => h) (by kernel_rfl) ?_ hHeld ?_; (rotate_left; (intro w hSw; (try dsimp only at hSw); go_simp; (try with_reducible rfl))); (try simp only [Act.put, List.setIfInBounds_toArray, List.set_cons_zero, List.set_cons_succ])); (refine take_on 1 55 (v := ?_) rfl rfl (by kernel_rfl) (by kernel_rfl) (by kernel_rfl) (fun _ _ _ h => h) (by kernel_rfl) ?_ hHeld ?_; (rotate_left; (intro w hSw; (try dsimp only at hSw); go_simp; (try with_reducible rfl))); (try simp only [Act.put, List.setIfInBounds_toArray, List.set_cons_zero, List.set_cons_succ])); (refine take_on 2 56 (v := ?_) rfl rfl (by kernel_rfl) (by kernel_rfl) (by kernel_rfl) (fun _ _ _ h => h) (by kernel_rfl) ?_ hHeld ?_; (rotate_left; (intro w hSw; (try dsimp only at hSw); go_simp; (try with_reducible rfl))); (try simp only [Act.put, List.setIfInBounds_toArray, List.set_cons_zero, List.set_cons_succ])); (refine take_on 3 57 (v := ?_) rfl rfl (by kernel_rfl) (by kernel_rfl) (by kernel_rfl) (fun _ _ _ h => h) (by kernel_rfl) ?_ hHeld ?_; (rotate_left; (intro w hSw; (try dsimp only at hSw); go_simp; (try with_reducible rfl))); (try simp only [Act.put, List.setIfInBounds_toArray, List.set_cons_zero, List.set_cons_succ])); (refine take_on 4 58 (v := ?_) rfl rfl (by kernel_rfl) (by kernel_rfl) (by kernel_rfl) (fun _ _ _ h => h) (by kernel_rfl) ?_ hHeld ?_; (rotate_left; (intro w hSw; (try dsimp only at hSw); go_simp; (try with_reducible rfl))); (try simp only [Act.put, List.setIfInBounds_toArray, List.set_cons_zero, List.set_cons_succ])); (refine take_on 5 59 (v := ?_) rfl rfl (by kernel_rfl) (by kernel_rfl) (by kernel_rfl) (fun _ _ _ h => h) (by kernel_rfl) ?_ hHeld ?_; (rotate_left; (intro w hSw; (try dsimp only at hSw); go_simp; (try with_reducible rfl))); (try simp only [Act.put, List.setIfInBounds_toArray, List.set_cons_zero, List.set_cons_succ])); (refine take_on 6 60 (v := ?_) rfl rfl (by kernel_rfl) (by kernel_rfl) (by kernel_rfl) (fun _ _ _ h => h) (by kernel_rfl) ?_ hHeld ?_; (rotate_left; (intro w hSw; (try dsimp only at hSw); go_simp; (try with_reducible rfl))); (try simp only [Act.put, List.setIfInBounds_toArray, List.set_cons_zero, List.set_cons_succ])); (refine take_on 7 61 (v := ?_) rfl rfl (by kernel_rfl) (by kernel_rfl) (by kernel_rfl) (fun _ _ _ h => h) (by kernel_rfl) ?_ hHeld ?_; (rotate_left; (intro w hSw; (try dsimp only at hSw); go_simp; (try with_reducible rfl))); (try simp only [Act.put, List.setIfInBounds_toArray, List.set_cons_zero, List.set_cons_succ])); (refine take_on 8 62 (v := ?_) rfl rfl (by kernel_rfl) (by kernel_rfl) (by kernel_rfl) (fun _ _ _ h => h) (by kernel_rfl) ?_ hHeld ?_; (rotate_left; (intro w hSw; (try dsimp only at hSw); go_simp; (try with_reducible rfl))); (try simp only [Act.put, List.setIfInBounds_toArray, List.set_cons_zero, List.set_cons_succ])); (refine take_on 9 63 (v := ?_) rfl rfl (by kernel_rfl) (by kernel_rfl) (by kernel_rfl) (fun _ _ _ h => h) (by kernel_rfl) ?_ hHeld ?_; (rotate_left; (intro w hSw; (try dsimp only at hSw); go_simp; (try with_reducible rfl))); (try simp only [Act.put, List.setIfInBounds_toArray, List.set_cons_zero, List.set_cons_succ])); (refine take_on 10 64 (v := ?_) rfl rfl (by kernel_rfl) (by kernel_rfl) (by kernel_rfl) (fun _ _ _ h => h) (by kernel_rfl) ?_ hHeld ?_; (rotate_left; (intro w hSw; (try dsimp only at hSw); go_simp; (try with_reducible rfl))); (try simp only [Act.put, List.setIfInBounds_toArray, List.set_cons_zero, List.set_cons_succ])); (refine take_on 11 65 (v := ?_) rfl rfl (by kernel_rfl) (by kernel_rfl) (by kernel_rfl) (fun _ _ _ h => h) (by kernel_rfl) ?_ hHeld ?_; (rotate_left; (intro w hSw; (try dsimp only at hSw); go_simp; (try with_reducible rfl))); (try simp only [Act.put, List.setIfInBounds_toArray, List.set_cons_zero, List.set_cons_succ])); (refine take_on 12 66 (v := ?_) rfl rfl (by kernel_rfl) (by kernel_rfl) (by kernel_rfl) (fun _ _ _ h => h) (by kernel_rfl) ?_ hHeld ?_; (rotate_left; (intro w hSw; (try dsimp only at hSw); go_simp; (try with_reducible rfl))); (try simp only [Act.put, List.setIfInBounds_toArray, List.set_cons_zero, List.set_cons_succ])); (refine take_on 13 67 (v := ?_) rfl rfl (by kernel_rfl) (by kernel_rfl) (by kernel_rfl) (fun _ _ _ h => h) (by kernel_rfl) ?_ hHeld ?_; (rotate_left; (intro w hSw; (try dsimp only at hSw); go_simp; (try with_reducible rfl))); (try simp only [Act.put, List.setIfInBounds_toArray, List.set_cons_zero, List.set_cons_succ])); (refine take_on 14 68 (v := ?_) rfl rfl (by kernel_rfl) (by kernel_rfl) (by kernel_rfl) (fun _ _ _ h => h) (by kernel_rfl) ?_ hHeld ?_; (rotate_left; (intro w hSw; (try dsimp only at hSw); go_simp; (try with_reducible rfl))); (try simp only [Act.put, List.setIfInBounds_toArray, List.set_cons_zero, List.set_cons_succ])); (refine take_on 15 69 (v := ?_) rfl rfl (by kernel_rfl) (by kernel_rfl) (by kernel_rfl) (fun _ _ _ h => h) (by kernel_rfl) ?_ hHeld ?_; (rotate_left; (intro w hSw; (try dsimp only at hSw); go_simp; (try with_reducible rfl))); (try simp only [Act.put, List.setIfInBounds_toArray, List.set_cons_zero, List.set_cons_succ])); (refine take_on 16 70 (v := ?_) rfl rfl (by kernel_rfl) (by kernel_rfl) (by kernel_rfl) (fun _ _ _ h => h) (by kernel_rfl) ?_ hHeld ?_; (rotate_left; (intro w hSw; (try dsimp only at hSw); go_simp; (try with_reducible rfl))); (try simp only [Act.put, List.setIfInBounds_toArray, List.set_cons_zero, List.set_cons_succ])); (refine take_on 17 71 (v := ?_) rfl rfl (by kernel_rfl) (by kernel_rfl) (by kernel_rfl) (fun _ _ _ h => h) (by kernel_rfl) ?_ hHeld ?_; (rotate_left; (intro w hSw; (try dsimp only at hSw); go_simp; (try with_reducible rfl))); (try simp only [Act.put, List.setIfInBounds_toArray, List.set_cons_zero, List.set_cons_succ])); (refine take_on 18 72 (v := ?_) rfl rfl (by kernel_rfl) (by kernel_rfl) (by kernel_rfl) (fun _ _ _ h => h) (by kernel_rfl) ?_ hHeld ?_; (rotate_left; (intro w hSw; (try dsimp only at hSw); go_simp; (try with_reducible rfl))); (try simp only [Act.put, List.setIfInBounds_toArray, List.set_cons_zero, List.set_cons_succ])); (refine take_on 19 73 (v := ?_) rfl rfl (by kernel_rfl) (by kernel_rfl) (by kernel_rfl) (fun _ _ _ h => h) (by kernel_rfl) ?_ hHeld ?_; (rotate_left; (intro w hSw; (try dsimp only at hSw); go_simp; (try with_reducible rfl))); (try simp only [Act.put, List.setIfInBounds_toArray, List.set_cons_zero, List.set_cons_succ])); (refine take_on 20 74 (v := ?_) rfl rfl (by kernel_rfl) (by kernel_rfl) (by kernel_rfl) (fun _ _ _ h => h) (by kernel_rfl) ?_ hHeld ?_; (rotate_left; (intro w hSw; (try dsimp only at hSw); go_simp; (try with_reducible rfl))); (try simp only [Act.put, List.setIfInBounds_toArray, List.set_cons_zero, List.set_cons_succ])); (refine take_on 21 75 (v := ?_) rfl rfl (by kernel_rfl) (by kernel_rfl) (by kernel_rfl) (fun _ _ _ h => h) (by kernel_rfl) ?_ hHeld ?_; (rotate_left; (intro w hSw; (try dsimp only at hSw); go_simp; (try with_reducible rfl))); (try simp only [Act.put, List.setIfInBounds_toArray, List.set_cons_zero, List.set_cons_succ])); (refine take_on 22 76 (v := ?_) rfl rfl (by kernel_rfl) (by kernel_rfl) (by kernel_rfl) (fun _ _ _ h => h) (by kernel_rfl) ?_ hHeld ?_; (rotate_left; (intro w hSw; (try dsimp only at hSw); go_simp; (try with_reducible rfl))); (try simp only [Act.put, List.setIfInBounds_toArray, List.set_cons_zero, List.set_cons_succ])); (refine take_on 23 77 (v := ?_) rfl rfl (by kernel_rfl) (by kernel_rfl) (by kernel_rfl) (fun _ _ _ h => h) (by kernel_rfl) ?_ hHeld ?_; (rotate_left; (intro w hSw; (try dsimp only at hSw); go_simp; (try with_reducible rfl))); (try simp only [Act.put, List.setIfInBounds_toArray, List.set_cons_zero, List.set_cons_succ])); (refine take_on 24 78 (v := ?_) rfl rfl (by kernel_rfl) (by kernel_rfl) (by kernel_rfl) (fun _ _ _ h => h) (by kernel_rfl) ?_ hHeld ?_; (rotate_left; (intro w hSw; (try dsimp only at hSw); go_simp; (try with_reducible rfl))); (try simp only [Act.put, List.setIfInBounds_toArray, List.set_cons_zero, List.set_cons_succ])); (refine take_on 25 79 (v := ?_) rfl rfl (by kernel_rfl) (by kernel_rfl) (by kernel_rfl) (fun _ _ _ h => h) (by kernel_rfl) ?_ hHeld ?_; (rotate_left; (intro w hSw; (try dsimp only at hSw); go_simp; (try with_reducible rfl))); (try simp only [Act.put, List.setIfInBounds_toArray, List.set_cons_zero, List.set_cons_succ])); (refine take_on 26 80 (v := ?_) rfl rfl (by kernel_rfl) (by kernel_rfl) (by kernel_rfl) (fun _ _ _ h => h) (by kernel_rfl) ?_ hHeld ?_; (rotate_left; (intro w hSw; (try dsimp only at hSw); go_simp; (try with_reducible rfl))); (try simp only [Act.put, List.setIfInBounds_toArray, List.set_cons_zero, List.set_cons_succ])); (refine take_on 27 81 (v := ?_) rfl rfl (by kernel_rfl) (by kernel_rfl) (by kernel_rfl) (fun _ _ _ h => h) (by kernel_rfl) ?_ hHeld ?_; (rotate_left; (intro w hSw; (try dsimp only at hSw); go_simp; (try with_reducible rfl))); (try simp only [Act.put, List.setIfInBounds_toArray, List.set_cons_zero, List.set_cons_succ])); (refine take_on 28 82 (v := ?_) rfl rfl (by kernel_rfl) (by kernel_rfl) (by kernel_rfl) (fun _ _ _ h => h) (by kernel_rfl) ?_ hHeld ?_; (rotate_left; (intro w hSw; (try dsimp only at hSw); go_simp; (try with_reducible rfl))); (try simp only [Act.put, List.setIfInBounds_toArray, List.set_cons_zero, List.set_cons_succ])); (refine take_on 29 83 (v := ?_) rfl rfl (by kernel_rfl) (by kernel_rfl) (by kernel_rfl) (fun _ _ _ h => h) (by kernel_rfl) ?_ hHeld ?_; (rotate_left; (intro w hSw; (try dsimp only at hSw); go_simp; (try with_reducible rfl))); (try simp only [Act.put, List.setIfInBounds_toArray, List.set_cons_zero, List.set_cons_succ])); (refine take_on 30 84 (v := ?_) rfl rfl (by kernel_rfl) (by kernel_rfl) (by kernel_rfl) (fun _ _ _ h => h) (by kernel_rfl) ?_ hHeld ?_; (rotate_left; (intro w hSw; (try dsimp only at hSw); go_simp; (try with_reducible rfl))); (try simp only [Act.put, List.setIfInBounds_toArray, List.set_cons_zero, List.set_cons_succ])); (refine take_on 31 85 (v := ?_) rfl rfl (by kernel_rfl) (by kernel_rfl) (by kernel_rfl) (fun _ _ _ h => h) (by kernel_rfl) ?_ hHeld ?_; (rotate_left; (intro w hSw; (try dsimp only at hSw); go_simp; (try with_reducible rfl))); (try simp only [Act.put, List.setIfInBounds_toArray, List.set_cons_zero, List.set_cons_succ])); (refine take_on 32 86 (v := ?_) rfl rfl (by kernel_rfl) (by kernel_rfl) (by kernel_rfl) (fun _ _ _ h => h) (by kernel_rfl) ?_ hHeld ?_; (rotate_left; (intro w hSw; (try dsimp only at hSw); go_simp; (try with_reducible rfl))); (try simp only [Act.put, List.setIfInBounds_toArray, List.set_cons_zero, List.set_cons_succ])); (refine take_on 33 87 (v := ?_) rfl rfl (by kernel_rfl) (by kernel_rfl) (by kernel_rfl) (fun _ _ _ h => h) (by kernel_rfl) ?_ hHeld ?_; (rotate_left; (intro w hSw; (try dsimp only at hSw); go_simp; (try with_reducible rfl))); (try simp only [Act.put, List.setIfInBounds_toArray, List.set_cons_zero, List.set_cons_succ])); (refine take_on 34 88 (v := ?_) rfl rfl (by kernel_rfl) (by kernel_rfl) (by kernel_rfl) (fun _ _ _ h => h) (by kernel_rfl) ?_ hHeld ?_; (rotate_left; (intro w hSw; (try dsimp only at hSw); go_simp; (try with_reducible rfl))); (try simp only [Act.put, List.setIfInBounds_toArray, List.set_cons_zero, List.set_cons_succ])); (refine take_on 35 89 (v := ?_) rfl rfl (by kernel_rfl) (by kernel_rfl) (by kernel_rfl) (fun _ _ _ h => h) (by kernel_rfl) ?_ hHeld ?_; (rotate_left; (intro w hSw; (try dsimp only at hSw); go_simp; (try with_reducible rfl))); (try simp only [Act.put, List.setIfInBounds_toArray, List.set_cons_zero, List.set_cons_succ])); (refine take_on 36 90 (v := ?_) rfl rfl (by kernel_rfl) (by kernel_rfl) (by kernel_rfl) (fun _ _ _ h => h) (by kernel_rfl) ?_ hHeld ?_; (rotate_left; (intro w hSw; (try dsimp only at hSw); go_simp; (try with_reducible rfl))); (try simp only [Act.put, List.setIfInBounds_toArray, List.set_cons_zero, List.set_cons_succ])); (refine take_on 37 91 (v := ?_) rfl rfl (by kernel_rfl) (by kernel_rfl) (by kernel_rfl) (fun _ _ _ h => h) (by kernel_rfl) ?_ hHeld ?_; (rotate_left; (intro w hSw; (try dsimp only at hSw); go_simp; (try with_reducible rfl))); (try simp only [Act.put, List.setIfInBounds_toArray, List.set_cons_zero, List.set_cons_succ])); (refine take_on 38 92 (v := ?_) rfl rfl (by kernel_rfl) (by kernel_rfl) (by kernel_rfl) (fun _ _ _ h => h) (by kernel_rfl) ?_ hHeld ?_; (rotate_left; (intro w hSw; (try dsimp only at hSw); go_simp; (try with_reducible rfl))); (try simp only [Act.put, List.setIfInBounds_toArray, List.set_cons_zero, List.set_cons_succ])); (refine take_on 39 93 (v := ?_) rfl rfl (by kernel_rfl) (by kernel_rfl) (by kernel_rfl) (fun _ _ _ h => h) (by kernel_rfl) ?_ hHeld ?_; (rotate_left; (intro w hSw; (try dsimp only at hSw); go_simp; (try with_reducible rfl))); (try simp only [Act.put, List.setIfInBounds_toArray, List.set_cons_zero, List.set_cons_succ])); (refine take_on 40 94 (v := ?_) rfl rfl (by kernel_rfl) (by kernel_rfl) (by kernel_rfl) (fun _ _ _ h => h) (by kernel_rfl) ?_ hHeld ?_; (rotate_left; (intro w hSw; (try dsimp only at hSw); go_simp; (try with_reducible rfl))); (try simp only [Act.put, List.setIfInBounds_toArray, List.set_cons_zero, List.set_cons_succ])); (refine take_on 41 95 (v := ?_) rfl rfl (by kernel_rfl) (by kernel_rfl) (by kernel_rfl) (fun _ _ _ h => h) (by kernel_rfl) ?_ hHeld ?_; (rotate_left; (intro w hSw; (try dsimp only at hSw); go_simp; (try with_reducible rfl))); (try simp only [Act.put, List.setIfInBounds_toArray, List.set_cons_zero, List.set_cons_succ])); (refine take_on 42 96 (v := ?_) rfl rfl (by kernel_rfl) (by kernel_rfl) (by kernel_rfl) (fun _ _ _ h => h) (by kernel_rfl) ?_ hHeld ?_; (rotate_left; (intro w hSw; (try dsimp only at hSw); go_simp; (try with_reducible rfl))); (try simp only [Act.put, List.setIfInBounds_toArray, List.set_cons_zero, List.set_cons_succ])); (refine take_on 43 97 (v := ?_) rfl rfl (by kernel_rfl) (by kernel_rfl) (by kernel_rfl) (fun _ _ _ h => h) (by kernel_rfl) ?_ hHeld ?_; (rotate_left; (intro w hSw; (try dsimp only at hSw); go_simp; (try with_reducible rfl))); (try simp only [Act.put, List.setIfInBounds_toArray, List.set_cons_zero, List.set_cons_succ])); (refine take_on 44 98 (v := ?_) rfl rfl (by kernel_rfl) (by kernel_rfl) (by kernel_rfl) (fun _ _ _ h => h) (by kernel_rfl) ?_ hHeld ?_; (rotate_left; (intro w hSw; (try dsimp only at hSw); go_simp; (try with_reducible rfl))); (try simp only [Act.put, List.setIfInBounds_toArray, List.set_cons_zero, List.set_cons_succ])); (refine take_on 45 99 (v := ?_) rfl rfl (by kernel_rfl) (by kernel_rfl) (by kernel_rfl) (fun _ _ _ h => h) (by kernel_rfl) ?_ hHeld ?_; (rotate_left; (intro w hSw; (try dsimp only at hSw); go_simp; (try with_reducible rfl))); (try simp only [Act.put, List.setIfInBounds_toArray, List.set_cons_zero, List.set_cons_succ])); (refine take_on 46 100 (v := ?_) rfl rfl (by kernel_rfl) (by kernel_rfl) (by kernel_rfl) (fun _ _ _ h => h) (by kernel_rfl) ?_ hHeld ?_; (rotate_left; (intro w hSw; (try dsimp only at hSw); go_simp; (try with_reducible rfl))); (try simp only [Act.put, List.setIfInBounds_toArray, List.set_cons_zero, List.set_cons_succ])); (refine take_on 47 101 (v := ?_) rfl rfl (by kernel_rfl) (by kernel_rfl) (by kernel_rfl) (fun _ _ _ h => h) (by kernel_rfl) ?_ hHeld ?_; (rotate_left; (intro w hSw; (try dsimp only at hSw); go_simp; (try with_reducible rfl))); (try simp only [Act.put, List.setIfInBounds_toArray, List.set_cons_zero, List.set_cons_succ])); (refine take_on 48 102 (v := ?_) rfl rfl (by kernel_rfl) (by kernel_rfl) (by kernel_rfl) (fun _ _ _ h => h) (by kernel_rfl) ?_ hHeld ?_; (rotate_left; (intro w hSw; (try dsimp only at hSw); go_simp; (try with_reducible rfl))); (try simp only [Act.put, List.setIfInBounds_toArray, List.set_cons_zero, List.set_cons_succ])); (refine take_on 49 103 (v := ?_) rfl rfl (by kernel_rfl) (by kernel_rfl) (by kernel_rfl) (fun _ _ _ h => h) (by kernel_rfl) ?_ hHeld ?_; (rotate_left; (intro w hSw; (try dsimp only at hSw); go_simp; (try with_reducible rfl))); (try simp only [Act.put, List.setIfInBounds_toArray, List.set_cons_zero, List.set_cons_succ])); (refine take_on 50 104 (v := ?_) rfl rfl (by kernel_rfl) (by kernel_rfl) (by kernel_rfl) (fun _ _ _ h => h) (by kernel_rfl) ?_ hHeld ?_; (rotate_left; (intro w hSw; (try dsimp only at hSw); go_simp; (try with_reducible rfl))); (try simp only [Act.put, List.setIfInBounds_toArray, List.set_cons_zero, List.set_cons_succ])); (refine take_on 51 105 (v := ?_) rfl rfl (by kernel_rfl) (by kernel_rfl) (by kernel_rfl) (fun _ _ _ h => h) (by kernel_rfl) ?_ hHeld ?_; (rotate_left; (intro w hSw; (try dsimp only at hSw); go_simp; (try with_reducible rfl))); (try simp only [Act.put, List.setIfInBounds_toArray, List.set_cons_zero, List.set_cons_succ])); (refine take_on 52 106 (v := ?_) rfl rfl (by kernel_rfl) (by kernel_rfl) (by kernel_rfl) (fun _ _ _ h => h) (by kernel_rfl) ?_ hHeld ?_; (rotate_left; (intro w hSw; (try dsimp only at hSw); go_simp; (try with_reducible rfl))); (try simp only [Act.put, List.setIfInBounds_toArray, List.set_cons_zero, List.set_cons_succ])); (refine take_on 53 107 (v := ?_) rfl rfl (by kernel_rfl) (by kernel_rfl) (by kernel_rfl) (fun _ _ _ h => h) (by kernel_rfl) ?_ hHeld ?_; (rotate_left; (intro w hSw; (try dsimp only at hSw); go_simp; (try with_reducible rfl))); (try simp only [Act.put, List.setIfInBounds_toArray, List.set_cons_zero, List.set_cons_succ])); (refine take_on 54 108 (v := ?_) rfl rfl (by kernel_rfl) (by kernel_rfl) (by kernel_rfl) (fun _ _ _ h => h) (by kernel_rfl) ?_ hHeld ?_; (rotate_left; (intro w hSw; (try dsimp only at hSw); go_simp; (try with_reducible rfl))); (try simp only [Act.put, List.setIfInBounds_toArray, List.set_cons_zero, List.set_cons_succ])); (refine take_on 55 109 (v := ?_) rfl rfl (by kernel_rfl) (by kernel_rfl) (by kernel_rfl) (fun _ _ _ h => h) (by kernel_rfl) ?_ hHeld ?_; (rotate_left; (intro w hSw; (try dsimp only at hSw); go_simp; (try with_reducible rfl))); (try simp only [Act.put, List.setIfInBounds_toArray, List.set_cons_zero, List.set_cons_succ])); (refine take_on 56 110 (v := ?_) rfl rfl (by kernel_rfl) (by kernel_rfl) (by kernel_rfl) (fun _ _ _ h => h) (by kernel_rfl) ?_ hHeld ?_; (rotate_left; (intro w hSw; (try dsimp only at hSw); go_simp; (try with_reducible rfl))); (try simp only [Act.put, List.setIfInBounds_toArray, List.set_cons_zero, List.set_cons_succ])); (refine take_on 57 111 (v := ?_) rfl rfl (by kernel_rfl) (by kernel_rfl) (by kernel_rfl) (fun _ _ _ h => h) (by kernel_rfl) ?_ hHeld ?_; (rotate_left; (intro w hSw; (try dsimp only at hSw); go_simp; (try with_reducible rfl))); (try simp only [Act.put, List.setIfInBounds_toArray, List.set_cons_zero, List.set_cons_succ])); (refine take_on 58 112 (v := ?_) rfl rfl (by kernel_rfl) (by kernel_rfl) (by kernel_rfl) (fun _ _ _ h => h) (by kernel_rfl) ?_ hHeld ?_; (rotate_left; (intro w hSw; (try dsimp only at hSw); go_simp; (try with_reducible rfl))); (try simp only [Act.put, List.setIfInBounds_toArray, List.set_cons_zero, List.set_cons_succ])); (refine take_on 59 113 (v := ?_) rfl rfl (by kernel_rfl) (by kernel_rfl) (by kernel_rfl) (fun _ _ _ h => h) (by kernel_rfl) ?_ hHeld ?_; (rotate_left; (intro w hSw; (try dsimp only at hSw); go_simp; (try with_reducible rfl))); (try simp only [Act.put, List.setIfInBounds_toArray, List.set_cons_zero, List.set_cons_succ])); (refine take_on 60 114 (v := ?_) rfl rfl (by kernel_rfl) (by kernel_rfl) (by kernel_rfl) (fun _ _ _ h => h) (by kernel_rfl) ?_ hHeld ?_; (rotate_left; (intro w hSw; (try dsimp only at hSw); go_simp; (try with_reducible rfl))); (try simp only [Act.put, List.setIfInBounds_toArray, List.set_cons_zero, List.set_cons_succ])); (refine take_on 61 115 (v := ?_) rfl rfl (by kernel_rfl) (by kernel_rfl) (by kernel_rfl) (fun _ _ _ h => h) (by kernel_rfl) ?_ hHeld ?_; (rotate_left; (intro w hSw; (try dsimp only at hSw); go_simp; (try with_reducible rfl))); (try simp only [Act.put, List.setIfInBounds_toArray, List.set_cons_zero, List.set_cons_succ])); (refine take_on 62 116 (v := ?_) rfl rfl (by kernel_rfl) (by kernel_rfl) (by kernel_rfl) (fun _ _ _ h => h) (by kernel_rfl) ?_ hHeld ?_; (rotate_left; (intro w hSw; (try dsimp only at hSw); go_simp; (try with_reducible rfl))); (try simp only [Act.put, List.setIfInBounds_toArray, List.set_cons_zero, List.set_cons_succ])); (refine take_on 63 117 (v := ?_) rfl rfl (by kernel_rfl) (by kernel_rfl) (by kernel_rfl) (fun _ _ _ h => h) (by kernel_rfl) ?_ hHeld ?_; (rotate_left; (intro w hSw; (try dsimp only at hSw); go_simp; (try with_reducible rfl))); (try simp only [Act.put, List.setIfInBounds_toArray, List.set_cons_zero, List.set_cons_succ])); (refine take_on 64 118 (v := ?_) rfl rfl (by kernel_rfl) (by kernel_rfl) (by kernel_rfl) (fun _ _ _ h => h) (by kernel_rfl) ?_ hHeld ?_; (rotate_left; (intro w hSw; (try dsimp only at hSw); go_simp; (try with_reducible rfl))); (try simp only [Act.put, List.setIfInBounds_toArray, List.set_cons_zero, List.set_cons_succ])); (refine take_on 65 119 (v := ?_) rfl rfl (by kernel_rfl) (by kernel_rfl) (by kernel_rfl) (fun _ _ _ h => h) (by kernel_rfl) ?_ hHeld ?_; (rotate_left; (intro w hSw; (try dsimp only at hSw); go_simp; (try with_reducible rfl))); (try simp only [Act.put, List.setIfInBounds_toArray, List.set_cons_zero, List.set_cons_succ])); (refine take_on 66 120 (v := ?_) rfl rfl (by kernel_rfl) (by kernel_rfl) (by kernel_rfl) (fun _ _ _ h => h) (by kernel_rfl) ?_ hHeld ?_; (rotate_left; (intro w hSw; (try dsimp only at hSw); go_simp; (try with_reducible rfl))); (try simp only [Act.put, List.setIfInBounds_toArray, List.set_cons_zero, List.set_cons_succ])); (refine take_on 67 121 (v := ?_) rfl rfl (by kernel_rfl) (by kernel_rfl) (by kernel_rfl) (fun _ _ _ h => h) (by kernel_rfl) ?_ hHeld ?_; (rotate_left; (intro w hSw; (try dsimp only at hSw); go_simp; (try with_reducible rfl))); (try simp only [Act.put, List.setIfInBounds_toArray, List.set_cons_zero, List.set_cons_succ])); (refine take_on 68 122 (v := ?_) rfl rfl (by kernel_rfl) (by kernel_rfl) (by kernel_rfl) (fun _ _ _ h => h) (by kernel_rfl) ?_ hHeld ?_; (rotate_left; (intro w hSw; (try dsimp only at hSw); go_simp; (try with_reducible rfl))); (try simp only [Act.put, List.setIfInBounds_toArray, List.set_cons_zero, List.set_cons_succ])); (refine take_on 69 123 (v := ?_) rfl rfl (by kernel_rfl) (by kernel_rfl) (by kernel_rfl) (fun _ _ _ h => h) (by kernel_rfl) ?_ hHeld ?_; (rotate_left; (intro w hSw; (try dsimp only at hSw); go_simp; (try with_reducible rfl))); (try simp only [Act.put, List.setIfInBounds_toArray, List.set_cons_zero, List.set_cons_succ])); (refine take_on 70 124 (v := ?_) rfl rfl (by kernel_rfl) (by kernel_rfl) (by kernel_rfl) (fun _ _ _ h => h) (by kernel_rfl) ?_ hHeld ?_; (rotate_left; (intro w hSw; (try dsimp only at hSw); go_simp; (try with_reducible rfl))); (try simp only [Act.put, List.setIfInBounds_toArray, List.set_cons_zero, List.set_cons_succ])); (refine take_on 71 125 (v := ?_) rfl rfl (by kernel_rfl) (by kernel_rfl) (by kernel_rfl) (fun _ _ _ h => h) (by kernel_rfl) ?_ hHeld ?_; (rotate_left; (intro w hSw; (try dsimp only at hSw); go_simp; (try with_reducible rfl))); (try simp only [Act.put, List.setIfInBounds_toArray, List.set_cons_zero, List.set_cons_succ])); (refine take_on 72 126 (v := ?_) rfl rfl (by kernel_rfl) (by kernel_rfl) (by kernel_rfl) (fun _ _ _ h => h) (by kernel_rfl) ?_ hHeld ?_; (rotate_left; (intro w hSw; (try dsimp only at hSw); go_simp; (try with_reducible rfl))); (try simp only [Act.put, List.setIfInBounds_toArray, List.set_cons_zero, List.set_cons_succ])); (refine take_on 73 127 (v := ?_) rfl rfl (by kernel_rfl) (by kernel_rfl) (by kernel_rfl) (fun _ _ _ h => h) (by kernel_rfl) ?_ hHeld ?_; (rotate_left; (intro w hSw; (try dsimp only at hSw); go_simp; (try with_reducible rfl))); (try simp only [Act.put, List.setIfInBounds_toArray, List.set_cons_zero, List.set_cons_succ])); (refine take_on 74 128 (v := ?_) rfl rfl (by kernel_rfl) (by kernel_rfl) (by kernel_rfl) (fun _ _ _ h => h) (by kernel_rfl) ?_ hHeld ?_; (rotate_left; (intro w hSw; (try dsimp only at hSw); go_simp; (try with_reducible rfl))); (try simp only [Act.put, List.setIfInBounds_toArray, List.set_cons_zero, List.set_cons_succ])); (refine take_on 75 129 (v := ?_) rfl rfl (by kernel_rfl) (by kernel_rfl) (by kernel_rfl) (fun _ _ _ h => h) (by kernel_rfl) ?_ hHeld ?_; (rotate_left; (intro w hSw; (try dsimp only at hSw); go_simp; (try with_reducible rfl))); (try simp only [Act.put, List.setIfInBounds_toArray, List.set_cons_zero, List.set_cons_succ])); (refine take_on 76 130 (v := ?_) rfl rfl (by kernel_rfl) (by kernel_rfl) (by kernel_rfl) (fun _ _ _ h => h) (by kernel_rfl) ?_ hHeld ?_; (rotate_left; (intro w hSw; (try dsimp only at hSw); go_simp; (try with_reducible rfl))); (try simp only [Act.put, List.setIfInBounds_toArray, List.set_cons_zero, List.set_cons_succ]))
      refine wpAnyH_done (by kernel_rfl) ?_ _
      have HZ0 := hHeld.1
      clear hHeld
      all_goals
        have HZ := Aside0.mk HZ0
        clear HZ0
        go_wp2
        go_roundg (gk - 1)
        case measure => have := HL.out; have := HI.out; have := HG.out; omega
        case rel => exact ⟨i + 1, k + 1, (by first | rfl | (simp; done) | (have := HL.out; have := HI.out; have := HLL.out; congr 1; unfold wrap64; omega)), (by first | rfl | (simp; done) | (have := HL.out; have := HI.out; have := HK.out; have := HKI.out; have := HLL.out; congr 1; unfold wrap64; omega)), by have := HI.out; omega, by have := HK.out; omega, by have := HKI.out; omega, by have := HL.out; omega, by have := HL.out; have := HI.out; have := HG.out; omega, HKL2, ⟨by have := HK.out; rw [show (k + 1).toNat = k.toNat + 1 by omega]; exact HDa.out⟩, ⟨by have := HK.out; rw [show (k + 1).toNat = k.toNat + 1 by omega]; exact HDb.out⟩, ⟨by have := HK.out; rw [show (k + 1).toNat = k.toNat + 1 by omega]; exact HDn.out⟩, HZ.out⟩

end Go.Proofs.Ytahcalhpigmbgaa.H
