import Derived.Test.YtecpojiinappcaaHK
import Derived.Test.YtecpojiinappcaaHLp
namespace Go.Proofs.Ytecpojiinappcaa.H
open Go.RowKit Go.Proofs.YtecpojiinappcaaW.PrintWords Go.Proofs.YtecpojiinappcaaW.PrintLast Go.Proofs.YtecpojiinappcaaW.PrintMore
set_option linter.unusedVariables false
set_option linter.unusedSimpArgs false
/-! PondShares -/
attribute [local go_sem] undef
theorem Fair_n (n : Nat) (A0 : Option Addr) (c0 : Nat) (l : List Int) (B0 : Option Addr) (d0 : Nat) (ps : List Int) (x : Int) (w : World) (hn : l.length = n) (hpn : ps.length = n) (hok : okW l) (hx0 : 0 ≤ x) (hx1 : x ≤ sumI l) (hs0 : 0 < sumI l)
    (hp : ∀ i : Int, 0 ≤ i → i < l.length → rd_Int ps i = x * rd_Int l i / sumI l ∨ (rd_Int ps i = x * rd_Int l i / sumI l + 1 ∧ 0 < x * rd_Int l i % sumI l)) (hsum : sumI ps = x) (hpb : okB ps)
    (hr0 : Kd.C (Kd.int .i64) w A0 n l) (hr1 : Kd.C (Kd.int .i64) w B0 n ps) :
    Calls Try.prog 22 #[.int .i64 x, .slice A0 n c0, .slice B0 n d0] w fun e w' => e = .returned (.bool true) ∧ Up w w' := by
  subst hn
  have h := Fair_c A0 c0 l B0 d0 ps x w hok hx0 hx1 hs0 hpn hp hsum hpb hr0 (by rw [hpn]; exact hr1)
  rwa [hpn] at h
set_option maxHeartbeats 16000000 in
set_option maxRecDepth 100000 in
theorem PondShares_c (A0 : Option Addr) (c0 : Nat) (l : List SPond) (x : Int) (w : World) (hr0 : Kd.C kPond w A0 l.length l) :
    Calls Try.prog 7 #[.slice A0 l.length c0, .int .i64 x] w fun e w' => e = .returned (.bool true) ∧ Up w w' := by
  have hu := Try.underlying38
  have HR := Aside0.mk hr0
  have HB := Up.refl w
  clear hr0
  go_enter Try.func7, Try.ntmps7
  go_wp2_with fail
  (with_reducible refine (alive_c _).mono ?_)
  rintro e w1 ⟨rfl, HB1⟩
  obtain ⟨b, hb⟩ : ∃ b, (ponR l == 0) = b := ⟨_, rfl⟩
  have HL := Aside0.mk hb
  clear hb
  go_wp2_with fail
  (with_reducible refine (lawRight_c A0 c0 l _ b HL.out (C_up HR.out HB1)).mono ?_)
  rintro e w2 ⟨rfl, hb⟩
  have HB2 := Up.step HB1 hb
  clear hb
  cases b
  · go_wp2
    go_ret
    exact ⟨rfl, HB2⟩
  have HR0 := Aside0.mk (beq_iff_eq.1 HL.out)
  have HP := Aside0.mk (ponR_ok HR0.out)
  obtain ⟨s, hs⟩ : ∃ s, spareS l = s := ⟨_, rfl⟩
  have HSP := Aside0.mk hs
  have hs0 : 0 ≤ s := by rw [← hs]; exact (okW_sum (spr_ok HP.out)).1
  have HS0 := Aside0.mk hs0
  have hta : takeS l s = (takeL l s, 0) := by unfold takeS; rw [if_neg (by omega), if_neg (by omega)]
  have HTA := Aside0.mk hta
  have hXr : ponR (takeL l s) = 0 := take_right HR0.out hs0 (by omega)
  have hXs : spareS (takeL l s) = 0 := by rw [← hs]; exact take_none HP.out
  have hXv : ∀ i : Int, 0 ≤ i → i < l.length → (rd_Pond (takeL l s) i).f1 = (rd_Pond l i).f2 := fun i a c => by rw [← hs]; exact take_all HP.out a c
  have hXl : (takeL l s).length = l.length := takeL_len l s
  obtain ⟨X, hX⟩ : ∃ X, takeL l s = X := ⟨_, rfl⟩
  rw [hX] at hXr hXs hXv hXl HTA
  have HXP := Aside0.mk (ponR_ok hXr)
  have HXS := Aside0.mk hXs
  have HXV := Aside0.mk hXv
  have HXL := Aside0.mk hXl
  have HT1 := Aside0.mk (show takeS X 1 = ([], 9) by unfold takeS; rw [if_neg (by omega), if_pos (by omega)])
  clear hs hs0 hta hXr hXs hXv hXl hX
  go_wp2_with fail
  (with_reducible refine (Spare_c A0 c0 l _ s HSP.out HP.out (C_up HR.out HB2)).mono ?_)
  rintro e w3 ⟨rfl, hb⟩
  have HB3 := Up.step HB2 hb
  clear hb
  go_wp2_with fail
  (with_reducible refine (Take_c A0 c0 l s _ X 0 HTA.out HP.out (C_up HR.out HB3)).mono ?_)
  rintro e w4 ⟨v, rfl, hR, hb⟩
  obtain ⟨XA, xc, rfl, -, hC⟩ := Kd.R_reads hR
  rw [HXL.out] at hC ⊢
  have HCX := Aside0.mk hC
  have HB4 := Up.step HB3 hb
  clear hb hR hC
  go_wp2_with fail
  (with_reducible refine (Spare_n l.length XA xc X _ 0 HXL.out HXS.out HXP.out HCX.out).mono ?_)
  rintro e w5 ⟨rfl, hb⟩
  have HCX := Aside0.mk (C_up HCX.out hb)
  have HB5 := Up.step HB4 hb
  clear hb
  go_wp2_with fail
  (with_reducible refine (Take_n l.length XA xc X 1 _ [] 9 HXL.out HT1.out HXP.out HCX.out).mono ?_)
  rintro e w6 ⟨v8, rfl, -, hb⟩
  have HCX := Aside0.mk (C_up HCX.out hb)
  have HB6 := Up.step HB5 hb
  clear hb
  obtain ⟨Y, g, ht⟩ : ∃ (R : List SPond) (e : Int), takeS l x = (R, e) := ⟨_, _, rfl⟩
  have HT := Aside0.mk ht
  clear ht
  go_wp2_with fail
  (with_reducible refine (Take_c A0 c0 l x _ Y g HT.out HP.out (C_up HR.out HB6)).mono ?_)
  rintro e w7 ⟨v, rfl, hR, hb⟩
  obtain ⟨YA, yc, rfl, -, hC⟩ := Kd.R_reads hR
  have HCX := Aside0.mk (C_up HCX.out hb)
  have HCY := Aside0.mk hC
  have HB7 := Up.step HB6 hb
  clear hb hR hC
  by_cases t1 : x < 0
  · have hs := (if_pos t1).symm.trans HT.out
    simp only [Prod.mk.injEq] at hs
    obtain ⟨rfl, rfl⟩ := hs
    have u1 := decide_eq_true (show x ≤ 0 by omega)
    have u2 : (x == 0) = false := beq_eq_false_iff_ne.mpr (by omega)
    have u3 : (x != 0) = true := bne_iff_ne.mpr (by omega)
    clear t1
    go_wp2
    go_ret
    exact ⟨by simp, HB7⟩
  by_cases t2 : x = 0
  · subst t2
    have hs : takeS l 0 = (l, 0) := by unfold takeS; rw [if_neg (by omega), if_neg (by rw [HSP.out]; have := HS0.out; omega)]; rfl
    have hs := hs.symm.trans HT.out
    simp only [Prod.mk.injEq] at hs
    obtain ⟨rfl, rfl⟩ := hs
    clear t1
    go_wp2_with fail
    (with_reducible refine (SamePond_n l.length YA yc l A0 c0 _ rfl HCY.out (C_up HR.out HB7)).mono ?_)
    rintro e w8 ⟨rfl, hb⟩
    have HB8 := Up.step HB7 hb
    clear hb
    go_wp2
    go_ret
    exact ⟨by simp, HB8⟩
  by_cases t3 : s < x
  · have hs : takeS l x = ([], 9) := by unfold takeS; rw [if_neg t1, if_pos (by rw [HSP.out]; exact t3)]
    have hs := hs.symm.trans HT.out
    simp only [Prod.mk.injEq] at hs
    obtain ⟨rfl, rfl⟩ := hs
    have u1 := decide_eq_false (show ¬ x ≤ 0 by omega)
    have u2 : (x == 0) = false := beq_eq_false_iff_ne.mpr (by omega)
    have u3 : (x != 0) = true := bne_iff_ne.mpr (by omega)
    clear t1 t2
    replace t3 := decide_eq_true t3
    go_wp2
    go_ret
    exact ⟨by simp, HB7⟩
  have hs : takeS l x = (takeL l x, 0) := by unfold takeS; rw [if_neg t1, if_neg (by rw [HSP.out]; exact t3)]
  have hs := hs.symm.trans HT.out
  simp only [Prod.mk.injEq] at hs
  obtain ⟨hY, rfl⟩ := hs
  have HX := Aside0.mk (show 0 < x ∧ x ≤ s by omega)
  have hYl : Y.length = l.length := by rw [← hY]; exact takeL_len l x
  have HYV := Aside0.mk (show ∀ i : Int, 0 ≤ i → i < l.length → (rd_Pond Y i).f1 = (rd_Pond l i).f1 - rd_Int (splitL x (sprL l)) i ∧ 0 ≤ rd_Int (splitL x (sprL l)) i ∧ rd_Int (splitL x (sprL l)) i ≤ sprI l i from fun i a c => by
    obtain ⟨p, e, p0, p1, hp, -⟩ := takeL_rd HP.out (x := x) (i := i) (by omega) (by rw [HSP.out]; omega) a c
    rw [← hp (by omega), ← hY, e]; exact ⟨rfl, p0, p1⟩)
  rw [hYl] at HCY ⊢
  have u1 := decide_eq_false (show ¬ x ≤ 0 by omega)
  have HLW := Aside0.mk (split_law (spr_ok HP.out) (x := x) (by omega) (by have := HSP.out; unfold spareS at this; omega))
  clear t1 t2 hY hYl HT
  replace t3 := decide_eq_false t3
  have HBW := Aside0.mk HB7
  have HR := Aside0.mk (C_up HR.out HB7)
  have HB := Up.refl w7
  go_wp2
  go_loopg [12, 13, 14] (l.length) (fun gk v12 v13 v14 w' => ∃ i : Int, v14 = .int .i64 i ∧ 0 ≤ i ∧ i ≤ l.length ∧ l.length - i.toNat ≤ gk ∧ Aside0 (RI w' w7.heap.size v12 (genL (sprI l) i.toNat)) ∧ Aside0 (RI w' w7.heap.size v13 (genL (rd_Int (splitL x (sprL l))) i.toNat)) ∧ Aside0 (apart v12 v13) ∧ Aside0 (Up w7 w'))
  case atStart => exact ⟨0, rfl, by omega, by omega, by omega, ⟨Kd.R_nil _ _ _ _ _⟩, ⟨Kd.R_nil _ _ _ _ _⟩, ⟨fun k hk => by simp [Value.ownBlock] at hk⟩, ⟨HB⟩⟩
  case round =>
    clear HB
    obtain ⟨i, rfl, hi, hil, hg, HA, HO, HAP, HB⟩ := hrel
    have HI := Aside0.mk hi
    have HIL := Aside0.mk hil
    have HG := Aside0.mk hg
    clear hil hg
    by_cases hlt : i < l.length
    · have HL := Aside0.mk hlt
      obtain ⟨ad, rfl⟩ : ∃ ad, A0 = some ad := by obtain ⟨ad, c, e, _⟩ := Kd.C_get HR.out zPond i hi hlt; exact ⟨ad, e⟩
      obtain ⟨xd, rfl⟩ : ∃ ad, XA = some ad := by obtain ⟨ad, c, e, _⟩ := Kd.C_get HCX.out zPond i hi hlt; exact ⟨ad, e⟩
      obtain ⟨yd, rfl⟩ : ∃ ad, YA = some ad := by obtain ⟨ad, c, e, _⟩ := Kd.C_get HCY.out zPond i hi hlt; exact ⟨ad, e⟩
      obtain ⟨-, a1, a2, -, -⟩ := rx_Pond HR.out
      obtain ⟨-, x1, -, -, -⟩ := rx_Pond HCX.out
      obtain ⟨-, y1, -, -, -⟩ := rx_Pond HCY.out
      have hxv := HXV.out i hi hlt
      obtain ⟨hyv, hp0, hp1⟩ := HYV.out i hi hlt
      have hpo := HP.out.2 i hi hlt
      unfold ponOk at hpo
      obtain ⟨f1, hf1⟩ : ∃ z, (rd_Pond l i).f1 = z := ⟨_, rfl⟩
      obtain ⟨f2, hf2⟩ : ∃ z, (rd_Pond l i).f2 = z := ⟨_, rfl⟩
      obtain ⟨p, hp⟩ : ∃ z, rd_Int (splitL x (sprL l)) i = z := ⟨_, rfl⟩
      have A1 := Aside0.mk (show ∀ W, Up w7 W → W.cell? ⟨(ad.add (i.toNat * 5)).block, (ad.add (i.toNat * 5)).off + 1, none⟩ = some (.int .i64 f1) from fun W u => by rw [← hf1]; exact a1 W i u hi hlt)
      have A2 := Aside0.mk (show ∀ W, Up w7 W → W.cell? ⟨(ad.add (i.toNat * 5)).block, (ad.add (i.toNat * 5)).off + 2, none⟩ = some (.int .i64 f2) from fun W u => by rw [← hf2]; exact a2 W i u hi hlt)
      have X1 := Aside0.mk (show ∀ W, Up w7 W → W.cell? ⟨(xd.add (i.toNat * 5)).block, (xd.add (i.toNat * 5)).off + 1, none⟩ = some (.int .i64 f2) from fun W u => by rw [← hf2, ← hxv]; exact x1 W i u hi hlt)
      have Y1 := Aside0.mk (show ∀ W, Up w7 W → W.cell? ⟨(yd.add (i.toNat * 5)).block, (yd.add (i.toNat * 5)).off + 1, none⟩ = some (.int .i64 (f1 - p)) from fun W u => by rw [← hf1, ← hp, ← hyv]; exact y1 W i u hi hlt)
      rw [hp] at hp0 hp1
      unfold sprI at hp1
      rw [hf1, hf2] at hp1
      rw [hf1, hf2] at hpo
      have HSI := Aside0.mk (show sprI l i = f1 - f2 by unfold sprI; rw [hf1, hf2])
      have HPI := Aside0.mk hp
      have v1 : decide ((l.length : Int) ≤ i) = false := decide_eq_false (by omega)
      have v2 : decide (f1 - p < f2) = false := decide_eq_false (by omega)
      have v3 : (f2 != f2) = false := bne_self_eq_false f2
      have hw1 : wrap64 (f1 - f2) = f1 - f2 := by unfold wrap64; omega
      have hw2 : wrap64 (f1 - (f1 - p)) = p := by unfold wrap64; omega
      obtain ⟨d, hd⟩ : ∃ z, f1 - f2 = z := ⟨_, rfl⟩
      obtain ⟨y, hy⟩ : ∃ z, f1 - p = z := ⟨_, rfl⟩
      have hk1 : wrap64 (f1 - f2) = d := hw1.trans hd
      have hk2 : IntKind.i64.wrap (f1 - f2) = d := (i64_w _).trans hk1
      rw [hy] at hw2 v2 Y1
      have hk3 : IntKind.i64.wrap (f1 - y) = p := (i64_w _).trans hw2
      rw [hd] at HSI
      clear hw1 hd hy
      have hlt2 := decide_eq_true hlt
      clear a1 a2 x1 y1 hxv hyv hp0 hp1 hpo hf1 hf2 hp
      replace hi := eq_true hi; replace hlt := eq_true hlt
      go_upto_region 19 with (fail)
      first | (go_region_held3 (fun w' => Up wr w' ∧ w'.cell? ⟨(yd.add (i.toNat * 5)).block, (yd.add (i.toNat * 5)).off + 1, none⟩ = some (.int .i64 y) ∧ w'.cell? ⟨(ad.add (i.toNat * 5)).block, (ad.add (i.toNat * 5)).off + 2, none⟩ = some (.int .i64 f2) ∧ w'.cell? ⟨(xd.add (i.toNat * 5)).block, (xd.add (i.toNat * 5)).off + 1, none⟩ = some (.int .i64 f2)) (first | (have hU_ := (Up.refl wr).drew; exact ⟨hU_, Y1.out _ (Up.step HB.out hU_), A2.out _ (Up.step HB.out hU_), X1.out _ (Up.step HB.out hU_)⟩) | (have hU_ : Up wr _ := (by assumption); exact ⟨hU_, Y1.out _ (Up.step HB.out hU_), A2.out _ (Up.step HB.out hU_), X1.out _ (Up.step HB.out hU_)⟩)) (fail)) | fail
      all_goals
        have HZ := Aside0.mk ((Up.refl wr).drew)
        generalize wr.drew = W3 at HZ ⊢
        have HA := Aside0.mk (Kd.R_below HA.out HZ.out)
        have HO := Aside0.mk (Kd.R_below HO.out HZ.out)
        have HB3 := Aside0.mk (Up.step HB.out HZ.out)
        have q1 := A1.out _ HB3.out
        have q2 := A1.out _ HB3.out.drew
        have q3 := A2.out _ HB3.out
        have q4 := A2.out _ HB3.out.drew
        go_upto_region 21 with (fail)
        go_region_law (refine Kd.R_append_step (Kd.int .i64) (w0 := w7) w7.heap.size rfl (.tmp 117) (.tmp 129) 40 3 _ 8 rfl Try.underlying40 infoInt rfl (by decide) (by decide) _ (genL (sprI l) i.toNat) d [.int .i64 d] (fun _ => True) (fun _ => False) (by simp [Act.eval, Act.put]) (by simp [Act.eval, Act.put]) rfl (fun _ h => h.elim) (fun _ _ => trivial) (Kd.R_drew HA.out) HB3.out.drew HB3.out.drew.size (by have := HP.out.1; have := HL.out; simp [genL_len]; omega) ?_; intro va W4 ho hb hgr hat)
        all_goals
          obtain ⟨ho2, hap⟩ := apart_grow HAP.out (Kd.R_drew HO.out) hgr hat
          have HA4 := Aside0.mk ho
          have HO4 := Aside0.mk ho2
          have HP4 := Aside0.mk hap
          have HB4 := Aside0.mk (show Up w7 W4 from hb)
          clear ho ho2 hap hb hgr hat q1 q2 q3 q4
          have q1 := A1.out _ HB4.out
          have q2 := A1.out _ HB4.out.drew
          have q3 := Y1.out _ HB4.out
          have q4 := Y1.out _ HB4.out.drew
          go_upto_region 22 with (fail)
          go_region_law (refine Kd.R_append_step (Kd.int .i64) (w0 := w7) w7.heap.size rfl (.tmp 131) (.tmp 143) 40 3 _ 8 rfl Try.underlying40 infoInt rfl (by decide) (by decide) _ (genL (rd_Int (splitL x (sprL l))) i.toNat) p [.int .i64 p] (fun _ => True) (fun _ => False) (by simp [Act.eval, Act.put]) (by simp [Act.eval, Act.put]) rfl (fun _ h => h.elim) (fun _ _ => trivial) (Kd.R_drew HO4.out) HB4.out.drew HB4.out.drew.size (by have := HP.out.1; have := HL.out; simp [genL_len]; omega) ?_; intro vb W5 ho hb hgr hat)
          all_goals
            obtain ⟨ho2, hap⟩ := apart_grow HP4.out.symm (Kd.R_drew HA4.out) hgr hat
            have HO5 := Aside0.mk ho
            have HA5 := Aside0.mk ho2
            have HP5 := Aside0.mk hap.symm
            have HB5 := Aside0.mk (show Up w7 W5 from hb)
            clear ho ho2 hap hb hgr hat q1 q2 q3 q4
            go_wp2
            go_roundg (gk - 1)
            case measure => have := HL.out; have := HI.out; have := HG.out; omega
            case rel => exact ⟨i + 1, (by first | rfl | (simp; done) | (have := HL.out; have := HI.out; have := HP.out.1; congr 1; unfold wrap64; omega)), by have := HI.out; omega, by have := HL.out; omega, by have := HL.out; have := HI.out; have := HG.out; omega, ⟨by rw [genL_step HI.out, HSI.out]; exact HA5.out⟩, ⟨by rw [genL_step HI.out, HPI.out]; exact HO5.out⟩, HP5, HB5⟩
    · have eA : genL (sprI l) i.toNat = sprL l := genL_end hi (by have := HIL.out; omega)
      have eO : genL (rd_Int (splitL x (sprL l))) i.toNat = splitL x (sprL l) := by
        rw [genL_end (n := l.length) hi (by have := HIL.out; omega)]
        have := gen_selfI (splitL x (sprL l))
        rwa [show (splitL x (sprL l)).length = l.length from (splitL_len _ _).trans (sprL_len l)] at this
      have hA := HA.out
      have hO := HO.out
      rw [eA] at hA
      rw [eO] at hO
      obtain ⟨WA, wc, rfl, -, hCA⟩ := Kd.R_reads hA
      obtain ⟨PA, pc, rfl, -, hCO⟩ := Kd.R_reads hO
      have hpl : (splitL x (sprL l)).length = l.length := (splitL_len _ _).trans (sprL_len l)
      rw [sprL_len] at hCA ⊢
      rw [hpl] at hCO ⊢
      have HCA := Aside0.mk hCA
      have HCO := Aside0.mk hCO
      have HPL := Aside0.mk hpl
      have HSI := Aside0.mk (show x ≤ sumI (sprL l) by have h := HSP.out; unfold spareS at h; have := HX.out; omega)
      have HSO := Aside0.mk (show 0 < sumI (sprL l) by have h := HSP.out; unfold spareS at h; have := HX.out; omega)
      have HOK := Aside0.mk (spr_ok HP.out)
      have HOB := Aside0.mk (okB_of (q := splitL x (sprL l)) (x := x) (by rw [hpl]; exact HP.out.1) (fun k a c => by rw [hpl] at c; exact (HYV.out k a c).2.1) (Int.le_of_eq HLW.out.2.2) (by have h := okW_sum (spr_ok HP.out); have := HSI.out; omega))
      have HX0 := Aside0.mk (show 0 ≤ x by have := HX.out; omega)
      clear eA eO hA hO hCA hCO hpl
      replace hlt := decide_eq_false hlt
      go_wp2_with fail
      (with_reducible refine (Fair_n l.length WA wc (sprL l) PA pc (splitL x (sprL l)) x _ (sprL_len l) HPL.out HOK.out HX0.out HSI.out HSO.out HLW.out.2.1 HLW.out.2.2 HOB.out HCA.out HCO.out).mono ?_)
      rintro e w8 ⟨rfl, hb⟩
      have HB8 := Aside0.mk (Up.step HBW.out (Up.step HB.out hb))
      clear hb
      go_wp2
      go_ret
      exact ⟨by simp, HB8.out⟩

end Go.Proofs.Ytecpojiinappcaa.H
