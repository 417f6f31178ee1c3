import Derived.Test.YtecpojiinappcaaHK
import Derived.Test.YtecpojiinappcaaHPg
namespace Go.Proofs.Ytecpojiinappcaa.H
open Go.RowKit Go.Proofs.YtecpojiinappcaaW.PrintWords Go.Proofs.YtecpojiinappcaaW.PrintLast Go.Proofs.YtecpojiinappcaaW.PrintMore
set_option linter.unusedVariables false
set_option linter.unusedSimpArgs false
/-! split.Split -/
theorem gr_none_up {W X : World} (h : W.grownBy X none) : Up W X := ⟨h.os, h.tape, h.output, h.size, fun k hk => h.block k hk (by simp)⟩
def byR (rs : List Int) (x y : Int) : Int := cmpI (rd_Int rs y) (rd_Int rs x)
theorem byR_lt (rs : List Int) (x y : Int) : byR rs x y < 0 ↔ rd_Int rs y < rd_Int rs x := by
  unfold byR cmpI
  split
  · omega
  · split <;> omega
theorem incF_step {ord ps : List Int} {k t : Int} (h : t < k) : incF ord (k - t).toNat t ps = incF ord (k - (t + 1)).toNat (t + 1) (ps.set (rd_Int ord t).toNat (rd_Int ps (rd_Int ord t) + 1)) := by
  rw [show (k - t).toNat = (k - (t + 1)).toNat + 1 by omega]; rfl
set_option maxHeartbeats 16000000 in
theorem Split_c (A0 : Option Addr) (c0 : Nat) (l : List Int) (x : Int) (w : World) (hok : okW l) (hx : 0 < x) (hxs : x ≤ sumI l) (hr0 : Kd.C (Kd.int .i64) w A0 l.length l) :
    Calls Try.prog 28 #[.int .i64 x, .slice A0 l.length c0] w fun e w' => ∃ v, e = .returned (.tuple #[v, .int .i64 0]) ∧ RI w' w.heap.size v (splitL x l) ∧ Up w w' := by
  have hsm := okW_sum hok
  obtain ⟨s, hs⟩ : ∃ s, sumI l = s := ⟨_, rfl⟩
  have hnl : 0 < l.length := by
    by_cases e : l.length = 0
    · have h := hs; unfold sumI at h; rw [e] at h; simp [sumTo] at h; omega
    · omega
  obtain ⟨ad, rfl⟩ : ∃ ad, A0 = some ad := by obtain ⟨ad, c, e, _⟩ := Kd.C_get hr0 0 0 (by omega) (by omega); exact ⟨ad, e⟩
  have HSM := Aside0.mk hs
  have HXS := Aside0.mk (show 0 < x ∧ x ≤ s ∧ s ≤ 8000000000 by omega)
  have HN := Aside0.mk (And.intro hnl hok.1)
  have HK := Aside0.mk hok
  have t1 := decide_eq_false (show ¬ (64 : Int) < (l.length : Int) by have := hok.1; omega)
  have t4 : (s == 0) = false := beq_eq_false_iff_ne.mpr (by omega)
  have hk1 := blk_alloc (blk_new w (.cells #[.int .i64 x] 3)) (.cells #[.slice (some ad) l.length c0] 40)
  have hk2 := blk_2 w (.cells #[.int .i64 x] 3) (.cells #[.slice (some ad) l.length c0] 40)
  have hub := ((Up.refl w).alloc (.cells #[.int .i64 x] 3)).alloc (.cells #[.slice (some ad) l.length c0] 40)
  have HR := Aside0.mk (C_up hr0 hub)
  have HUB := Aside0.mk hub
  clear hok hx hxs hs hsm hnl hr0 hub
  go_enter Try.func28, Try.ntmps28
  go_upto_region 2 with (fail)
  generalize (w.alloc (.cells #[.int .i64 x] 3)).alloc (.cells #[.slice (some ad) l.length c0] 40) = Wb at hk1 hk2 HR HUB ⊢
  generalize w.heap.size + 1 = g2 at hk2 ⊢
  obtain ⟨g1, hg1⟩ : ∃ g, g = w.heap.size := ⟨_, rfl⟩
  rw [← hg1] at hk1 ⊢
  have c1 : ∀ W, Up Wb W → W.cell? ⟨g1, 0, none⟩ = some (.int .i64 x) := fun W u => (blk_cell (Up.blk u hk1) 0).trans rfl
  have c2 : ∀ W, Up Wb W → W.cell? ⟨g2, 0, none⟩ = some (.slice (some ad) l.length c0) := fun W u => (blk_cell (Up.blk u hk2) 0).trans rfl
  have HG1 := Aside0.mk (And.intro hg1 (And.intro (blk_lt hk1) (blk_lt hk2)))
  have K1 := Aside0.mk hk1
  have K2 := Aside0.mk hk2
  clear hk1 hk2 hg1
  have HB := Up.refl Wb
  go_wp2_with fail
  (with_reducible refine (isAmount_c x _ (by have := HXS.out; omega) (by have := HXS.out; omega)).mono ?_)
  rintro e w1 ⟨rfl, hb⟩
  have HB := Up.step HB hb
  clear hb
  go_wp2_with fail
  (with_reducible refine (ContainsI_c (some ad) c0 l _ HK.out (C_up HR.out HB)).mono ?_)
  rintro e w2 ⟨rfl, hb⟩
  have HB := Up.step HB hb
  clear hb
  go_wp2_with fail
  (with_reducible refine (sum_c (some ad) c0 l _ s HSM.out HK.out.B (C_up HR.out HB)).mono ?_)
  rintro e w3 ⟨rfl, hb⟩
  have HB := Up.step HB hb
  have HB3 := Aside0.mk HB
  clear hb
  go_wp2_with ((with_reducible refine gate_dst (N := 32) rfl ?_); refine Kd.R_make (Kd.int .i64) (w0 := w) w.heap.size 3 rfl (N := 32) rfl 40 (.tmp 31) (.tmp 31) rfl (l.length : Int) rfl rfl Try.underlying40 (.int .i64 0) 8 infoInt rfl (by decide) (by decide) 0 (ok := fun _ => True) (okp := fun _ => True) rfl (fun _ _ => trivial) trivial (by omega) ?aL ?aB ?aS ?_; (case aL => have := HN.out; simp; omega); (case aB => exact (Up.step HUB.out HB3.out).alloc _); (case aS => exact ((Up.step HUB.out HB3.out).alloc _).size); intro v1 w4 hR hb hg hat; rw [Int.toNat_natCast] at hR; obtain ⟨gR, c, rfl, hgR⟩ := RI_form hR (by have := HN.out; simp; omega); rw [List.length_replicate] at hR ⊢; have hup := gr_none_up hg; have HB4 : Up Wb w4 := Up.step (HB3.out.alloc _) hup)
  have hlt3 : w3.heap.size < gR ∧ gR < w4.heap.size := by
    obtain ⟨b, e, hle⟩ := hat
    have e2 : gR = b := by simpa [Value.ownBlock] using e
    have h3 := Kd.R_lt hR gR (by simp [Value.ownBlock])
    have h4 : (w3.alloc (.cells #[.int .i64 s] 3)).heap.size = w3.heap.size + 1 := by simp
    omega
  have hwb := HB3.out.size
  have K3 := Aside0.mk (blk_alloc (Up.blk hup (blk_new w3 (.cells #[.int .i64 s] 3))) (.cells #[.slice (some ⟨gR, 0, none⟩) l.length c] 40))
  have K4 := Aside0.mk (blk_new w4 (.cells #[.slice (some ⟨gR, 0, none⟩) l.length c] 40))
  have HR5 := Aside0.mk (Kd.R_alloc hR (.cells #[.slice (some ⟨gR, 0, none⟩) l.length c] 40))
  have HB5 := Aside0.mk (HB4.alloc (.cells #[.slice (some ⟨gR, 0, none⟩) l.length c] 40))
  have hsz5 : (w4.alloc (.cells #[.slice (some ⟨gR, 0, none⟩) l.length c] 40)).heap.size = w4.heap.size + 1 := by simp
  generalize w4.alloc (.cells #[.slice (some ⟨gR, 0, none⟩) l.length c] 40) = w5 at K3 K4 HR5 HB5 hsz5 ⊢
  obtain ⟨B3, hB3⟩ : ∃ b, b = w3.heap.size := ⟨_, rfl⟩
  obtain ⟨B4, hB4⟩ : ∃ b, b = w4.heap.size := ⟨_, rfl⟩
  rw [← hB3] at K3 ⊢
  rw [← hB4] at K4 ⊢
  have HLT := Aside0.mk (show g1 < gR ∧ g2 < gR ∧ B3 < gR ∧ gR < B4 ∧ B4 < w5.heap.size ∧ Wb.heap.size ≤ gR ∧ w.heap.size ≤ gR ∧ w.heap.size ≤ Wb.heap.size by have := HG1.out; have := HUB.out.size; omega)
  have K1 := Aside0.mk (Up.blk HB5.out K1.out)
  have K2 := Aside0.mk (Up.blk HB5.out K2.out)
  have HU5 := Aside0.mk (Up.step HUB.out HB5.out)
  have HWT := Aside0.mk (show ∀ (W : World) (i : Int), w5.grownBy W (some gR) → 0 ≤ i → i < l.length → W.cell? (ad.add i.toNat) = some (.int .i64 (rd_Int l i)) from fun W i hg h0 h1 => by
    have h := rx_Int HR.out Wb i (Up.refl _) h0 h1
    have hlt := World.block_lt_of_cell? Wb _ h
    exact hg.cell ((HB5.out.cell hlt).trans h) (fun e => by have := HLT.out; cases e; omega))
  clear hR hb hg hat hup HB4 HB HB3 hlt3 hwb hsz5 hB3 hB4 hgR
  obtain ⟨n, hn⟩ : ∃ n, l.length = n := ⟨_, rfl⟩
  have HNL := Aside0.mk hn
  rw [hn] at HN HWT HR5 K2 K4 t1 ⊢
  have HC2 := Aside0.mk (show ∀ W, Up Wb W → W.cell? ⟨g2, 0, none⟩ = some (.slice (some ad) n c0) by rw [← hn]; exact c2)
  clear hn
  have hfill := fill_c 38 #[.pointer (some ⟨g1, 0, none⟩), .pointer (some ⟨g2, 0, none⟩), .pointer (some ⟨B3, 0, none⟩), .pointer (some ⟨B4, 0, none⟩)] (fun i => x * rd_Int l i / s) n gR
    (fun i W => ∃ rs, rs.length = n ∧ (∀ j : Int, 0 ≤ j → j < i → rd_Int rs j = x * rd_Int l j % s) ∧ RI W w.heap.size (.slice (some ⟨gR, 0, none⟩) n c) rs ∧ w5.grownBy W (some gR)) w5 HN.out.1 (by have := HN.out.2; omega) (by have := HLT.out; omega)
    (fun args w => enters_ Try.func38 (by kernel_rfl) rfl args w)
    (fun W hu => ⟨_, by simp, fun j a b => by omega, Kd.R_below HR5.out hu, gr_up hu⟩)
    (fun i W b j u h hb => by
      obtain ⟨rs, e1, e2, e3, e4⟩ := h
      exact ⟨rs, e1, e2, RI_far (g := gR) e3 rfl (by have := HLT.out; omega) _ _, gr_far e4 hb _ _⟩)
    (fun W i h h0 h1 => by
      obtain ⟨rs, e1, e2, e3, e4⟩ := h
      have hl := HNL.out
      have hy := HK.out.2 i h0 (by omega)
      have hlt := HLT.out
      have k1 := blk_grown K1.out e4 (by simp; omega)
      have k2 := blk_grown K2.out e4 (by simp; omega)
      have k3 := blk_grown K3.out e4 (by simp; omega)
      have k4 := blk_grown K4.out e4 (by simp; omega)
      refine (filler_c g1 g2 B3 B4 gR n c c0 w.heap.size ad x (rd_Int l i) s _ _ i rs W h0 h1 ((blk_cell k1 0).trans rfl) ((blk_cell k2 0).trans rfl) ((blk_cell k3 0).trans rfl) ((blk_cell k4 0).trans rfl) (HWT.out W i e4 h0 h1) e3 (by have := HXS.out; omega) (by have := HXS.out; omega) hy.1 hy.2 (by have := HXS.out; omega) HXS.out.2.2 rfl rfl).mono ?_
      rintro e W' ⟨rfl, hr, hg⟩
      refine ⟨rfl, ⟨_, by rw [List.length_set]; exact e1, fun j a b => ?_, hr, gr_trans e4 hg⟩, hg⟩
      rw [rdI_set h0 (by omega) a]
      by_cases e : j = i
      · rw [if_pos e, e]
      · rw [if_neg e]; exact e2 j a (by omega))
  (with_reducible refine hfill.mono ?_)
  clear hfill
  rintro e w6 ⟨v, rfl, hP, ⟨rs, hrl, hrs, hRR, -⟩, hg6⟩
  obtain ⟨gP, cP, rfl, hgP⟩ := RI_form hP (by rw [genL_len]; exact HN.out.1)
  rw [genL_len] at hP ⊢
  have hlP := Kd.R_lt hP gP (by simp [Value.ownBlock])
  have hlR := HLT.out
  have e1 : genL (fun i => x * rd_Int l i / s) n = quoL x l := by rw [← HNL.out, ← HSM.out]; rfl
  have e2 : rs = remL x l := extI (hrl.trans (HNL.out.symm.trans (genL_len _ _).symm)) fun j a b => by
    rw [remL, rdI_gen a (by have := HNL.out; omega), HSM.out]; exact hrs j a (by omega)
  rw [e1] at hP
  subst e2
  have HP := Aside0.mk hP
  have HQL := Aside0.mk (show (quoL x l).length = n from (genL_len _ _).trans HNL.out)
  have HRL := Aside0.mk hrl
  have HRR := Aside0.mk hRR
  have HU6 := Aside0.mk (gr_below HU5.out hg6 (by have := HLT.out; omega))
  have HX6 := Aside0.mk (show w5.heap.size ≤ gP ∧ gP < w6.heap.size ∧ gR < gP ∧ w.heap.size ≤ gP ∧ gR < w6.heap.size by have := hg6.size; omega)
  have d1 : ∀ W, Up w6 W → W.cell? ⟨g1, 0, none⟩ = some (.int .i64 x) := fun W u => (blk_cell (Up.blk u (blk_grown K1.out hg6 (by simp; omega))) 0).trans rfl
  have d2 : ∀ W, Up w6 W → W.cell? ⟨g2, 0, none⟩ = some (.slice (some ad) n c0) := fun W u => (blk_cell (Up.blk u (blk_grown K2.out hg6 (by simp; omega))) 0).trans rfl
  have D4 := Aside0.mk (show ∀ W, Up w6 W → W.cell? ⟨B4, 0, none⟩ = some (.slice (some ⟨gR, 0, none⟩) n c) from fun W u => (blk_cell (Up.blk u (blk_grown K4.out hg6 (by simp; omega))) 0).trans rfl)
  have HB := Up.refl w6
  clear hP hrl hrs hRR hg6 e1 hlP hlR hgP c1 c2 K1 K2 K3 K4 HB5 HR5 HWT HC2 HU5
  go_wp2_with fail
  have hfill := fill_c 40 #[] (fun i => i) n gR (fun _ W => Up w6 W) w6 HN.out.1 (by have := HN.out.2; omega) HX6.out.2.2.2.2
    (fun args w => enters_ Try.func40 (by kernel_rfl) rfl args w) (fun W hu => hu) (fun i W b j u h hb => h.set hb)
    (fun W i h h0 h1 => (ident_c i W).mono fun e W' ⟨he, hu⟩ => ⟨he, Up.step h hu, gr_up hu⟩)
  (with_reducible refine hfill.mono ?_)
  clear hfill
  rintro e w7 ⟨v, rfl, hO, hU7, -⟩
  obtain ⟨gO, cO, rfl, hgO⟩ := RI_form hO (by rw [genL_len]; exact HN.out.1)
  rw [genL_len] at hO ⊢
  have hlO := Kd.R_lt hO gO (by simp [Value.ownBlock])
  have HB := hU7
  have HO := Aside0.mk hO
  have HU7 := Aside0.mk hU7
  have HX7 := Aside0.mk (show w6.heap.size ≤ gO from hgO)
  clear hO hU7 hgO hlO
  go_wp2_with fail
  have hgl : (genL (fun i : Int => i) n).length = n := genL_len _ _
  have hsrt := sortI_c 42 #[.pointer (some ⟨B4, 0, none⟩)] (byR (remL x l)) w6 w7 gO n cO (genL (fun i => i) n) (by rw [hgl]; have := HN.out.2; omega) HO.out HU7.out
    (fun args w => enters_ Try.func42 (by kernel_rfl) rfl args w)
    (fun y => 0 ≤ y ∧ y < n) (fun i a b => by rw [hgl] at b; rw [rdI_gen a b]; exact ⟨a, b⟩)
    (fun W a b hu ha hb => byRest_c B4 gR n c (remL x l) a b _ W ha.1 ha.2 hb.1 hb.2 rfl (D4.out W hu) (fun j j0 j1 => RI_rd HRR.out W j hu j0 j1))
  (with_reducible refine hsrt.mono ?_)
  clear hsrt hgl
  rintro e w8 ⟨rfl, hO, hU8⟩
  obtain ⟨ord, hord⟩ : ∃ o, sortI (byR (remL x l)) (genL (fun i => i) n) = o := ⟨_, rfl⟩
  have HLAW := sort_law (c := byR (remL x l)) (R := rd_Int (remL x l)) HN.out.1 (fun x y _ _ _ _ => byR_lt _ x y)
  rw [hord] at HLAW hO
  have HLAW := Aside0.mk HLAW
  have HO := Aside0.mk hO
  have HP := Aside0.mk (Kd.R_below HP.out hU8)
  have HU8 := Aside0.mk (Up.step HU6.out hU8)
  have C1 := Aside0.mk (fun W (u : Up w8 W) => d1 W (Up.step hU8 u))
  have C2 := Aside0.mk (fun W (u : Up w8 W) => d2 W (Up.step hU8 u))
  obtain ⟨sq, hsq⟩ : ∃ z, sumI (quoL x l) = z := ⟨_, rfl⟩
  have HSQ := Aside0.mk hsq
  obtain ⟨k0, k1⟩ := split_k HK.out (x := x) (by have := HXS.out; omega) (by have := HXS.out; have := HSM.out; omega)
  have k2 := pos_le (rd_Int (remL x l)) l.length
  rw [hsq] at k0 k1
  rw [HNL.out] at k1 k2
  obtain ⟨k, hk⟩ := Int.eq_ofNat_of_zero_le k0
  rw [hk] at k0 k1
  have hkn : (k : Int) ≤ n := by omega
  have HKN := Aside0.mk (And.intro k0 hkn)
  have hcO := (Kd.R_reads' hO).2.1
  have hkc : (k : Int) ≤ cO := by omega
  have hw1 : wrap64 (x - sq) = k := by have := HXS.out; have := HN.out; unfold wrap64; omega
  have hw2 : IntKind.i64.wrap (x - sq) = k := (i64_w _).trans hw1
  have HKE := Aside0.mk hk
  have HOKB := Aside0.mk (okB_of (q := quoL x l) (x := x) (by rw [HQL.out]; exact HN.out.2) (quo_nonneg HK.out (by have := HXS.out; omega)) (by omega) (by have := HXS.out; omega))
  have HCP := Aside0.mk (fun W (u : Up w8 W) => RI_C (Kd.R_below HP.out u))
  clear hO hord hU8 hsq k1 k2 hk hcO HB d1 d2
  replace k0 := eq_true k0; replace hkn := eq_true hkn; replace hkc := eq_true hkc
  have HB := Up.refl w8
  go_upto_region 13 with (fail)
  first | (go_region_held3 (fun w' => Up w8 w' ∧ w'.cell? ⟨g1, 0, none⟩ = some (.int .i64 x)) (first | (have hU_ := (Up.refl w8).drew; exact ⟨hU_, C1.out _ hU_⟩) | (have hU_ : Up w8 _ := (by assumption); exact ⟨hU_, C1.out _ hU_⟩)) (first | (go_at_call 36; (with_reducible refine (sum_n n _ cP (quoL x l) _ sq HQL.out HSQ.out HOKB.out (HCP.out _ (by first | assumption | exact (Up.refl w8).drew))).mono ?_); rintro e w' ⟨rfl, hb⟩; have hU := Up.step (w := w8) (by first | assumption | exact (Up.refl w8).drew) hb; clear hb))) | fail
  all_goals
    have hZ := (show Up w8 _ by assumption)
    have HP := Aside0.mk (Kd.R_below HP.out hZ)
    have HO := Aside0.mk (Kd.R_below HO.out hZ)
    have HU9 := Aside0.mk (Up.step HU8.out hZ)
    have HF := Aside0.mk (show incF ord ((k : Int) - 0).toNat 0 (quoL x l) = splitL x l by
      have h := inc_go HLAW.out.1 HLAW.out.2 (fun i a b => by rw [remL, rdI_gen a (by have := HNL.out; omega)]; exact Int.emod_nonneg _ (by have := HXS.out; have := HSM.out; omega)) ((k : Int) - 0).toNat 0 (quoL x l) (remL x l) (by omega) (by have := HKN.out; omega) HRL.out (fun p a b => by rw [if_neg (by omega)])
      rw [h, splitL, HSQ.out, HKE.out, Int.sub_zero])
    clear hZ HB
    go_wp2
    go_loopg [12, 50] n (fun gk _ v50 w' => ∃ (t : Int) (ps : List Int), v50 = .int .i64 t ∧ 0 ≤ t ∧ t ≤ (k : Int) ∧ ((k : Int) - t).toNat ≤ gk ∧ Aside0 (ps.length = n ∧ ∀ i : Int, 0 ≤ i → i < n → 0 ≤ rd_Int ps i ∧ rd_Int ps i ≤ 8000000000 + t) ∧ Aside0 (incF ord ((k : Int) - t).toNat t ps = splitL x l) ∧ Aside0 (RI w' w5.heap.size (.slice (some ⟨gP, 0, none⟩) n cP) ps) ∧ Aside0 (RI w' w6.heap.size (.slice (some ⟨gO, 0, none⟩) n cO) ord) ∧ Aside0 (Up w w'))
    case atStart => exact ⟨0, quoL x l, rfl, by omega, HKN.out.1, by have := HKN.out; omega, ⟨HQL.out, fun i a b => by have h := quo_nonneg HK.out (x := x) (by have := HXS.out; omega) i a (by have := HQL.out; omega); have h2 := HOKB.out; have h3 := sumTo_elem (f := rd_Int (quoL x l)) a (show i < (quoL x l).length by have := HQL.out; omega) (fun j c d => (h2.2 j c d).1); have h4 := HSQ.out; unfold sumI at h4; have := HKE.out; have := HKN.out; have := HXS.out; omega⟩, HF, HP, HO, HU9⟩
    case round =>
      clear HP HO HU9 HF
      obtain ⟨t, ps, rfl, ht, htk, hg, HPS, HF, HP, HO, HU9⟩ := hrel
      have HT := Aside0.mk (And.intro ht htk)
      have HG := Aside0.mk hg
      clear hg htk
      by_cases hlt : t < (k : Int)
      · have HL := Aside0.mk hlt
        have htn : t < n := by have := HKN.out; omega
        have HTN := Aside0.mk htn
        obtain ⟨b0, b1⟩ := HLAW.out.1.rng t ht htn
        obtain ⟨co, fo⟩ := RI_cell HO.out ht htn
        obtain ⟨b, hb⟩ : ∃ b, rd_Int ord t = b := ⟨_, rfl⟩
        have HBE := Aside0.mk hb
        rw [hb] at b0 b1 co
        obtain ⟨cp, fp⟩ := RI_cell HP.out b0 b1
        obtain ⟨z, hz⟩ : ∃ z, rd_Int ps b = z := ⟨_, rfl⟩
        have HZ := Aside0.mk hz
        have hzb := HPS.out.2 b b0 b1
        rw [hz] at cp hzb
        have hw1 : wrap64 (z + 1) = z + 1 := by have := HN.out; unfold wrap64; omega
        have HB0 := Aside0.mk (And.intro b0 b1)
        have HZB := Aside0.mk hzb
        have hlt2 := decide_eq_true hlt
        clear hb hz hzb fo
        replace ht := eq_true ht; replace hlt := eq_true hlt; replace htn := eq_true htn; replace b0 := eq_true b0; replace b1 := eq_true b1
        go_wp2
        have hx6 := HX6.out
        have hx7 := HX7.out
        go_roundg (gk - 1)
        case measure => have := HL.out; have := HT.out; have := HG.out; omega
        case rel => exact ⟨t + 1, ps.set b.toNat (z + 1), (by first | rfl | (simp; done) | (have := HL.out; have := HT.out; have := HN.out; have := HKN.out; congr 1; unfold wrap64; omega)), by have := HT.out; omega, by have := HL.out; omega, by have := HL.out; have := HT.out; have := HG.out; omega, ⟨by rw [List.length_set]; exact HPS.out.1, fun i a c => by
            rw [rdI_set HB0.out.1 (by have := HPS.out.1; have := HB0.out.2; omega) a]
            have h := HPS.out.2 i a c
            have := HZB.out
            split <;> omega⟩, ⟨by rw [← HF.out, incF_step HL.out, HBE.out, HZ.out]⟩, ⟨RI_set HP.out b (z + 1)⟩, ⟨RI_far (g := gO) HO.out rfl (by omega) _ _⟩, ⟨(by have HU_ := HU9.out; repeat (with_reducible first | exact HU_ | refine Up.set ?_ (by omega) | apply Up.alloc | apply Up.drewN | apply Up.drew))⟩⟩
      · have HE := Aside0.mk (show ps = splitL x l by have h := HF.out; rwa [show ((k : Int) - t).toNat = 0 by omega] at h)
        have hx6 := HX6.out
        replace hlt := decide_eq_false hlt
        go_wp2
        exact bodyPost_ret (v := .tuple #[.slice (some ⟨gP, 0, none⟩) n cP, .int .i64 0]) (by simp [results, Try.results28, go_sem]) rfl ⟨_, rfl, by rw [← HE.out]; exact Kd.R_lower HP.out (by have := HLT.out; omega), HU9.out⟩

end Go.Proofs.Ytecpojiinappcaa.H
