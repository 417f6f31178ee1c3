import Derived.Test.YtecpojiinappcaaHK
import Derived.Test.YtecpojiinappcaaHFj
namespace Go.Proofs.Ytecpojiinappcaa.H
open Go.RowKit Go.Proofs.YtecpojiinappcaaW.PrintWords Go.Proofs.YtecpojiinappcaaW.PrintLast Go.Proofs.YtecpojiinappcaaW.PrintMore
set_option linter.unusedVariables false
set_option linter.unusedSimpArgs false
/-! Fair of the reference, where it holds -/
attribute [local go_sem] undef
set_option maxHeartbeats 16000000 in
theorem Fair_c (A0 : Option Addr) (c0 : Nat) (l : List Int) (B0 : Option Addr) (d0 : Nat) (ps : List Int) (x : Int) (w : World) (hok : okW l) (hx0 : 0 ≤ x) (hx1 : x ≤ sumI l) (hs0 : 0 < sumI l) (hpl : ps.length = l.length)
    (hp : ∀ i : Int, 0 ≤ i → i < l.length → rd_Int ps i = x * rd_Int l i / sumI l ∨ (rd_Int ps i = x * rd_Int l i / sumI l + 1 ∧ 0 < x * rd_Int l i % sumI l)) (hsum : sumI ps = x) (hpb : okB ps)
    (hr0 : Kd.C (Kd.int .i64) w A0 l.length l) (hr1 : Kd.C (Kd.int .i64) w B0 ps.length ps) :
    Calls Try.prog 22 #[.int .i64 x, .slice A0 l.length c0, .slice B0 ps.length d0] w fun e w' => e = .returned (.bool true) ∧ Up w w' := by
  have HB := Up.refl w
  have hsm := okW_sum hok
  obtain ⟨s, hs⟩ : ∃ s, sumI l = s := ⟨_, rfl⟩
  rw [hs] at hsm hx1 hs0 hp
  have HS := Aside0.mk hs
  have HX := Aside0.mk (show 0 ≤ x ∧ x ≤ s ∧ 0 < s ∧ s ≤ 8000000000 by omega)
  have HK := Aside0.mk hok
  have HP := Aside0.mk hp
  have HPB := Aside0.mk hpb
  have HSP := Aside0.mk hsum
  have HR := Aside0.mk hr0
  have HR1 := Aside0.mk hr1
  have hl3 : ((ps.length : Int) != (l.length : Int)) = false := bne_eq_false_iff_eq.mpr (by omega)
  have hl2 : (ps.length != l.length) = false := bne_eq_false_iff_eq.mpr hpl
  have HPL := Aside0.mk hpl
  clear hs hsm hx1 hs0 hp hok hx0 hpl hsum hpb hr0 hr1
  go_enter Try.func22, Try.ntmps22
  go_wp2
  go_loopg [7, 8, 9] (ps.length) (fun gk v7 _ _ w' => ∃ i : Int, v7 = .int .i64 i ∧ 0 ≤ i ∧ ps.length - i.toNat ≤ gk ∧ Up w w')
  case atStart => exact ⟨0, rfl, by omega, by omega, HB⟩
  case round =>
    clear HB
    obtain ⟨i, rfl, hi, hg, HB⟩ := hrel
    have HI := Aside0.mk hi
    have HG := Aside0.mk hg
    have HBA := Aside0.mk HB
    clear hg HB
    by_cases hlt : i < ps.length
    · have HL := Aside0.mk hlt
      have hil : i < l.length := by have := HPL.out; omega
      obtain ⟨ad, rfl⟩ : ∃ ad, A0 = some ad := by obtain ⟨ad, c, e, _⟩ := Kd.C_get HR.out 0 i hi hil; exact ⟨ad, e⟩
      obtain ⟨bd, rfl⟩ : ∃ ad, B0 = some ad := by obtain ⟨ad, c, e, _⟩ := Kd.C_get HR1.out 0 i hi hlt; exact ⟨ad, e⟩
      have hpp := HP.out i hi hil
      have hww := HK.out.2 i hi hil
      have hws : rd_Int l i ≤ s := by rw [← HS.out]; exact sumTo_elem (f := rd_Int l) hi hil (fun k a b => (HK.out.2 k a b).1)
      have X0 := fun W u => rx_Int HR.out W i u hi hil
      have Y0 := fun W u => rx_Int HR1.out W i u hi hlt
      have hpq := HPB.out.2 i hi hlt
      obtain ⟨y, hy⟩ : ∃ y, rd_Int l i = y := ⟨_, rfl⟩
      obtain ⟨p, hp⟩ : ∃ p, rd_Int ps i = p := ⟨_, rfl⟩
      rw [hy] at hpp hww hws X0
      rw [hp] at hpp hpq Y0
      have C := fun W => Quotient_c x y s HX.out.1 (by have := HX.out; omega) hww.1 hww.2 HX.out.2.2.1 (by have := HX.out; omega) hws W
      obtain ⟨q, hq⟩ : ∃ q, x * y / s = q := ⟨_, rfl⟩
      obtain ⟨r, hr⟩ : ∃ r, x * y % s = r := ⟨_, rfl⟩
      rw [hq, hr] at C hpp
      have HC := Aside0.mk C
      have X0 := Aside0.mk (fun W (u : Up wr W) => X0 W (Up.step HBA.out u))
      have Y0 := Aside0.mk (fun W (u : Up wr W) => Y0 W (Up.step HBA.out u))
      have HRW := Aside0.mk (fun W (u : Up wr W) => C_up HR.out (Up.step HBA.out u))
      have HPP := Aside0.mk hpp
      have HPQ := Aside0.mk hpq
      have hlt2 := decide_eq_true hlt
      clear hpp hww hws hy hp hq hr C hpq
      replace hi := eq_true hi; replace hlt := eq_true hlt; replace hil := eq_true hil
      go_upto_region 6 with (fail)
      first | (go_region_held3 (fun w' => Up wr w' ∧ w'.cell? (ad.add i.toNat) = some (.int .i64 y)) (first | (have hU_ := (Up.refl wr).drew; exact ⟨hU_, X0.out _ hU_⟩) | (have hU_ : Up wr _ := (by assumption); exact ⟨hU_, X0.out _ hU_⟩)) (first | (go_at_call 31; (with_reducible refine (sumR_c (some ad) c0 l _ s HS.out (okW.B HK.out) (HRW.out _ (by first | assumption | exact (Up.refl wr).drew))).mono ?_); rintro e w' ⟨rfl, hb⟩; have hU := Up.step (w := wr) (by first | assumption | exact (Up.refl wr).drew) hb; clear hb) | (go_at_call 30; (with_reducible refine (HC.out _).mono ?_); rintro e w' ⟨rfl, hb⟩; have hU := Up.step (w := wr) (by first | assumption | exact (Up.refl wr).drew) hb; clear hb))) | fail
      all_goals
        have HZ := Aside0.mk (show Up wr _ by assumption)
        have p0 := Y0.out _ HZ.out
        by_cases u : p = q
        · have un := bne_eq_false_iff_eq.mpr u; replace u := beq_iff_eq.mpr u
          go_wp2
          go_roundg (gk - 1)
          case measure => have := HL.out; have := HI.out; have := HG.out; omega
          case rel => exact ⟨i + 1, (by first | rfl | (simp; done) | (have := HL.out; have := HI.out; have := HPB.out.1; congr 1; unfold wrap64; omega)), by have := HI.out; omega, by have := HL.out; have := HI.out; have := HG.out; omega, Up.step HBA.out HZ.out⟩
        · have h1 : p = q + 1 ∧ 0 < r := by rcases HPP.out with h | h; exact absurd h u; exact h
          have v1 : (r == 0) = false := beq_eq_false_iff_ne.mpr (by omega)
          have v2 : wrap64 (q + 1) = p := by have := HPQ.out; rw [h1.1]; unfold wrap64; omega
          clear h1
          have un := bne_iff_ne.mpr u; replace u := beq_eq_false_iff_ne.mpr u
          go_wp2
          go_roundg (gk - 1)
          case measure => have := HL.out; have := HI.out; have := HG.out; omega
          case rel => exact ⟨i + 1, (by first | rfl | (simp; done) | (have := HL.out; have := HI.out; have := HPB.out.1; congr 1; unfold wrap64; omega)), by have := HI.out; omega, by have := HL.out; have := HI.out; have := HG.out; omega, Up.step HBA.out HZ.out⟩
    · replace hlt := decide_eq_false hlt
      go_wp2_with fail
      (with_reducible refine (sumR_c B0 d0 ps _ x HSP.out HPB.out (C_up HR1.out HBA.out)).mono ?_)
      rintro e w2 ⟨rfl, hb⟩
      have HB2 := Aside0.mk (Up.step HBA.out hb)
      clear hb
      go_wp2
      go_ret
      exact ⟨by simp, HB2.out⟩

end Go.Proofs.Ytecpojiinappcaa.H
