import Derived.Test.YtecpojiinappcaaHK
import Derived.Test.YtecpojiinappcaaHPo
namespace Go.Proofs.Ytecpojiinappcaa.H
open Go.RowKit Go.Proofs.YtecpojiinappcaaW.PrintWords Go.Proofs.YtecpojiinappcaaW.PrintLast Go.Proofs.YtecpojiinappcaaW.PrintMore
set_option linter.unusedVariables false
set_option linter.unusedSimpArgs false
/-! Take of the program -/
def tk (l : List SPond) (x i : Int) : SPond := ⟨(rd_Pond l i).f0, (rd_Pond l i).f1 - rd_Int (splitL x (sprL l)) i, (rd_Pond l i).f2, (rd_Pond l i).f3, (rd_Pond l i).f4⟩
def takeL (l : List SPond) (x : Int) : List SPond := if x = 0 then l else genL (tk l x) l.length
def takeS (l : List SPond) (x : Int) : List SPond × Int := if x < 0 then ([], 2) else if spareS l < x then ([], 9) else (takeL l x, 0)
theorem RP_form {W : World} {base : Nat} {v : Value} {xs : List SPond} (h : RP W base v xs) (hp : 0 < xs.length) : ∃ g cap, v = .slice (some ⟨g, 0, none⟩) xs.length cap ∧ base ≤ g ∧ g < W.heap.size := by
  obtain ⟨g, cap, e, h1, h2, -⟩ := Kd.R_form h hp
  exact ⟨g, cap, e, h1, h2⟩
theorem Split_n (n : Nat) (A0 : Option Addr) (c0 : Nat) (l : List Int) (x : Int) (w : World) (hn : l.length = n) (hok : okW l) (hx : 0 < x) (hxs : x ≤ sumI l) (hr0 : Kd.C (Kd.int .i64) w A0 n l) :
    Calls Try.prog 28 #[.int .i64 x, .slice A0 n c0] w fun e w' => ∃ v, e = .returned (.tuple #[v, .int .i64 0]) ∧ RI w' w.heap.size v (splitL x l) ∧ Up w w' := by
  subst hn; exact Split_c A0 c0 l x w hok hx hxs hr0
theorem sprL_len (l : List SPond) : (sprL l).length = l.length := genL_len _ _
theorem splitL_len (x : Int) (ws : List Int) : (splitL x ws).length = ws.length := by rw [splitL, goS_len]; exact genL_len _ _
set_option maxHeartbeats 16000000 in
theorem Take_c (A0 : Option Addr) (c0 : Nat) (l : List SPond) (x : Int) (w : World) (R : List SPond) (e : Int) (h : takeS l x = (R, e)) (hok : PB l) (hr0 : Kd.C kPond w A0 l.length l) :
    Calls Try.prog 17 #[.slice A0 l.length c0, .int .i64 x] w fun en w' => ∃ v, en = .returned (.tuple #[v, .int .i64 e]) ∧ RP w' w.heap.size v R ∧ Up w w' := by
  have hu := Try.underlying38
  have HR := Aside0.mk hr0
  have HK := Aside0.mk hok
  have HS := Aside0.mk h
  have HB := Up.refl w
  have HL8 := Aside0.mk hok.1
  clear hr0 hok h
  by_cases t1 : x < 0
  · have hs := (if_pos t1).symm.trans HS.out
    simp only [Prod.mk.injEq] at hs
    obtain ⟨rfl, rfl⟩ := hs
    replace t1 := decide_eq_true t1
    go_enter Try.func17, Try.ntmps17
    go_wp2
    exact bodyPost_ret (v := .tuple #[.slice none 0 0, .int .i64 2]) (by simp [results, Try.results17, go_sem]) rfl ⟨_, rfl, Kd.R_nil _ _ _ _ _, HB⟩
  have HS := Aside0.mk ((if_neg t1).symm.trans HS.out)
  have HX0 := Aside0.mk t1
  obtain ⟨s, hs⟩ : ∃ s, spareS l = s := ⟨_, rfl⟩
  have HSP := Aside0.mk hs
  rw [hs] at HS
  clear hs
  replace t1 := decide_eq_false t1
  go_enter Try.func17, Try.ntmps17
  go_wp2_with fail
  (with_reducible refine (Spare_c A0 c0 l _ s HSP.out HK.out (C_up HR.out HB)).mono ?_)
  rintro en w1 ⟨rfl, hb⟩
  have HU1 := Aside0.mk (Up.step HB hb)
  clear hb HB
  by_cases t2 : s < x
  · have hs := (if_pos t2).symm.trans HS.out
    simp only [Prod.mk.injEq] at hs
    obtain ⟨rfl, rfl⟩ := hs
    replace t2 := decide_eq_true t2
    go_wp2
    exact bodyPost_ret (v := .tuple #[.slice none 0 0, .int .i64 9]) (by simp [results, Try.results17, go_sem]) rfl ⟨_, rfl, Kd.R_nil _ _ _ _ _, HU1.out⟩
  have hs := (if_neg t2).symm.trans HS.out
  simp only [Prod.mk.injEq] at hs
  obtain ⟨hq, rfl⟩ := hs
  have HQ := Aside0.mk hq
  have HXS := Aside0.mk (show x ≤ s by omega)
  clear hq
  replace t2 := decide_eq_false t2
  go_wp2_with fail
  (with_reducible refine (ClonePond_c A0 c0 l _ (by have := HL8.out; omega) (C_up HR.out HU1.out)).mono ?_)
  rintro en w2 ⟨v, rfl, hR, hb⟩
  have HO := Aside0.mk hR
  have HU2 := Aside0.mk (Up.step HU1.out hb)
  clear hR hb
  by_cases t3 : x = 0
  · have hq := (if_pos t3).symm.trans HQ.out
    subst hq
    subst t3
    go_wp2
    exact bodyPost_ret (v := .tuple #[v, .int .i64 0]) (by simp [results, Try.results17, go_sem]) rfl ⟨_, rfl, Kd.R_lower HO.out HU1.out.size, HU2.out⟩
  have hq := (if_neg t3).symm.trans HQ.out
  subst hq
  have HX1 := Aside0.mk (show 0 < x by have := HX0.out; omega)
  have HXI := Aside0.mk (show x ≤ sumI (sprL l) by have h1 := HSP.out; have := HXS.out; unfold spareS at h1; omega)
  have hnl : 0 < l.length := by
    by_cases e : l.length = 0
    · have h := HSP.out; rw [spareS_eq, e] at h; have := HXS.out; have := HX1.out; simp [sumTo] at h; omega
    · omega
  obtain ⟨gC, cC, rfl, hg0, hg1⟩ := RP_form HO.out hnl
  have HGC := Aside0.mk (And.intro hg0 hg1)
  have HNL := Aside0.mk hnl
  clear hg0 hg1 hnl HQ HS HX0
  have t3n := bne_iff_ne.mpr t3; replace t3 := beq_eq_false_iff_ne.mpr t3
  go_wp2_with fail
  (with_reducible refine (spares_c A0 c0 l _ HK.out (C_up HR.out HU2.out)).mono ?_)
  rintro en w3 ⟨v, rfl, hR, hb⟩
  have HO := Aside0.mk (Kd.R_below HO.out hb)
  have HU3 := Aside0.mk (Up.step HU2.out hb)
  have HZ := Aside0.mk hb.size
  obtain ⟨gS, cS, rfl, -⟩ := RI_form hR (by rw [sprL_len]; exact HNL.out)
  rw [sprL_len] at hR ⊢
  have HSR := Aside0.mk hR
  clear hR hb
  go_wp2_with fail
  (with_reducible refine (Split_n l.length _ cS (sprL l) x _ (sprL_len l) (spr_ok HK.out) HX1.out HXI.out (RI_C HSR.out)).mono ?_)
  rintro en w4 ⟨v, rfl, hR, hb⟩
  have HO := Aside0.mk (Kd.R_below HO.out hb)
  have HU4 := Aside0.mk (Up.step HU3.out hb)
  have hll : (splitL x (sprL l)).length = l.length := (splitL_len _ _).trans (sprL_len l)
  obtain ⟨gP, cP, rfl, hgP⟩ := RI_form hR (by rw [hll]; exact HNL.out)
  rw [hll] at hR ⊢
  have HNE := Aside0.mk (show gC ≠ gP by have := HGC.out; have := HZ.out; omega)
  have HP := Aside0.mk hR
  have HLL := Aside0.mk hll
  clear hR hb hgP hll HSR
  have HB := Up.refl w4
  go_wp2
  go_loopg [9, 10, 34] (l.length) (fun gk _ _ v34 w' => ∃ (i : Int) (ys : List SPond), v34 = .int .i64 i ∧ 0 ≤ i ∧ i ≤ l.length ∧ l.length - i.toNat ≤ gk ∧ Aside0 (ys.length = l.length ∧ (∀ j : Int, 0 ≤ j → j < i → rd_Pond ys j = tk l x j) ∧ (∀ j : Int, i ≤ j → j < l.length → rd_Pond ys j = rd_Pond l j)) ∧ Aside0 (RP w' w1.heap.size (.slice (some ⟨gC, 0, none⟩) l.length cC) ys) ∧ Aside0 (RI w' w3.heap.size (.slice (some ⟨gP, 0, none⟩) l.length cP) (splitL x (sprL l))) ∧ Aside0 (Up w w'))
  case atStart => exact ⟨0, l, rfl, by omega, by omega, by omega, ⟨rfl, fun j a b => by omega, fun j a b => rfl⟩, HO, HP, HU4⟩
  case round =>
    clear HO HP HU4 HB
    obtain ⟨i, ys, rfl, hi, hil, hg, HY, HO, HP, HU4⟩ := hrel
    have HI := Aside0.mk hi
    have HIL := Aside0.mk hil
    have HG := Aside0.mk hg
    clear hil hg
    by_cases hlt : i < l.length
    · have HL := Aside0.mk hlt
      obtain ⟨p0, -⟩ := RI_cell HP.out hi hlt
      obtain ⟨c0, c1, c2, c3, c4, cf⟩ := rowPond HO.out hi hlt
      have f1 := cf 1
      have hye := HY.out.2.2 i (Int.le_refl _) hlt
      have hsl := split_le (spr_ok HK.out) (x := x) (i := i) (by have := HX1.out; omega) (by have := HXI.out; have := HX1.out; omega) HXI.out hi (by rw [sprL_len]; exact hlt)
      rw [show rd_Int (sprL l) i = sprI l i from rdI_gen hi hlt] at hsl
      have hpb := HK.out.2 i hi hlt
      unfold ponOk at hpb
      unfold sprI at hsl
      have HTK := Aside0.mk (show tk l x i = ⟨(rd_Pond l i).f0, (rd_Pond l i).f1 - rd_Int (splitL x (sprL l)) i, (rd_Pond l i).f2, (rd_Pond l i).f3, (rd_Pond l i).f4⟩ from rfl)
      obtain ⟨p, hp⟩ : ∃ p, rd_Int (splitL x (sprL l)) i = p := ⟨_, rfl⟩
      rw [hp] at p0 hsl HTK
      rw [hye] at c0 c1 c2 c3 c4
      have hw1 : wrap64 ((rd_Pond l i).f1 - p) = (rd_Pond l i).f1 - p := by unfold wrap64; omega
      have HYE := Aside0.mk hye
      have hlt2 := decide_eq_true hlt
      clear hye hsl hpb hp cf c0 c2 c3 c4
      replace hi := eq_true hi; replace hlt := eq_true hlt
      go_wp2
      have hz := HNE.out
      have hgc := HGC.out.1
      have hsz := HU1.out.size
      go_roundg (gk - 1)
      case measure => have := HL.out; have := HI.out; have := HG.out; omega
      case rel => exact ⟨i + 1, ys.set i.toNat ⟨(rd_Pond ys i).f0, (rd_Pond l i).f1 - p, (rd_Pond ys i).f2, (rd_Pond ys i).f3, (rd_Pond ys i).f4⟩, (by first | rfl | (simp; done) | (have := HL.out; have := HI.out; have := HK.out.1; congr 1; unfold wrap64; omega)), by have := HI.out; omega, by have := HL.out; omega, by have := HL.out; have := HI.out; have := HG.out; omega, ⟨by rw [List.length_set]; exact HY.out.1, fun j a b => by
          rw [rdP_set HI.out (by have := HY.out.1; have := HL.out; omega) a]
          by_cases e : j = i
          · rw [if_pos e, e, HTK.out, HYE.out]
          · rw [if_neg e]; exact HY.out.2.1 j a (by omega), fun j a b => by
          rw [rdP_set HI.out (by have := HY.out.1; have := HL.out; omega) (by have := HI.out; omega), if_neg (by omega)]; exact HY.out.2.2 j (by omega) b⟩, ⟨setPond1 HO.out HI.out HL.out _⟩, ⟨RI_far (g := gP) HP.out rfl hz _ _⟩, ⟨(by have HU_ := HU4.out; repeat (with_reducible first | exact HU_ | refine Up.set ?_ (by omega) | apply Up.alloc | apply Up.drewN | apply Up.drew))⟩⟩
    · have HE := Aside0.mk (show ys = genL (tk l x) l.length from extP (HY.out.1.trans (genL_len _ _).symm) fun j a b => by rw [rdP_gen a (by have := HY.out.1; omega)]; exact HY.out.2.1 j a (by have := HIL.out; have := HY.out.1; omega))
      replace hlt := decide_eq_false hlt
      go_wp2
      exact bodyPost_ret (v := .tuple #[.slice (some ⟨gC, 0, none⟩) l.length cC, .int .i64 0]) (by simp [results, Try.results17, go_sem]) rfl ⟨_, rfl, by rw [← HE.out]; exact Kd.R_lower HO.out HU1.out.size, HU4.out⟩

end Go.Proofs.Ytecpojiinappcaa.H
