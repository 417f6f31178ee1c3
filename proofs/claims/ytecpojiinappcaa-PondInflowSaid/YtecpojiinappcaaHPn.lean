import Derived.Test.YtecpojiinappcaaHK
import Derived.Test.YtecpojiinappcaaHPm
namespace Go.Proofs.Ytecpojiinappcaa.H
open Go.RowKit Go.Proofs.YtecpojiinappcaaW.PrintWords Go.Proofs.YtecpojiinappcaaW.PrintLast Go.Proofs.YtecpojiinappcaaW.PrintMore
set_option linter.unusedVariables false
set_option linter.unusedSimpArgs false
/-! Take of the reference -/
def tkp (l : List SPond) (ps : List Int) (i : Int) : SPond := ⟨(rd_Pond l i).f0, (rd_Pond l i).f1 - rd_Int ps i, (rd_Pond l i).f2, (rd_Pond l i).f3, (rd_Pond l i).f4⟩
theorem SplitR_n (n : Nat) (A0 : Option Addr) (c0 : Nat) (l : List Int) (x : Int) (w : World) (hn : l.length = n) (hok : okW l) (hx : 0 < x) (hxs : x ≤ sumI l) (hr0 : Kd.C (Kd.int .i64) w A0 n l) :
    Calls Try.prog 29 #[.int .i64 x, .slice A0 n c0] w fun e w' => ∃ v, e = .returned (.tuple #[v, .int .i64 0]) ∧ RI w' w.heap.size v (splitL x l) ∧ Up w w' := by
  subst hn; exact SplitR_c A0 c0 l x w hok hx hxs hr0
theorem infoPond2 : (Try.prog.info? 38).map (fun i => (i.zero, i.size, i.bytes)) = some (some (.agg #[(.int .i64 0), (.int .i64 0), (.int .i64 0), (.int .i64 0), (.int .i64 0)]), 5, 40) := by kernel_rfl
theorem intNotPond : ∀ q, q ∈ 3 :: (Kd.int .i64).E → q ≠ 38 := by
  intro q hq
  have e : q = 3 := by simpa [Kd.int, Kd.scalar] using hq
  rw [e]; decide
set_option maxHeartbeats 16000000 in
set_option maxRecDepth 100000 in
theorem TakeR_c (A0 : Option Addr) (c0 : Nat) (l : List SPond) (x : Int) (w : World) (R : List SPond) (e : Int) (h : takeS l x = (R, e)) (hok : PB l) (hr0 : Kd.C kPond w A0 l.length l) :
    Calls Try.prog 18 #[.slice A0 l.length c0, .int .i64 x] w fun en w' => ∃ v, en = .returned (.tuple #[v, .int .i64 e]) ∧ RP w' w.heap.size v R ∧ Up w w' := by
  have hu := Try.underlying38
  have HR := Aside0.mk hr0
  have HK := Aside0.mk hok
  have HS := Aside0.mk h
  have HB := Up.refl w
  have HL8 := Aside0.mk hok.1
  clear hr0 hok h
  by_cases t1 : x < 0
  · have hs := (if_pos t1).symm.trans HS.out
    simp only [Prod.mk.injEq] at hs
    obtain ⟨rfl, rfl⟩ := hs
    replace t1 := decide_eq_true t1
    go_enter Try.func18, Try.ntmps18
    go_wp2
    exact bodyPost_ret (v := .tuple #[.slice none 0 0, .int .i64 2]) (by simp [results, Try.results18, go_sem]) rfl ⟨_, rfl, Kd.R_nil _ _ _ _ _, HB⟩
  have HS := Aside0.mk ((if_neg t1).symm.trans HS.out)
  have HX0 := Aside0.mk t1
  obtain ⟨s, hs⟩ : ∃ s, spareS l = s := ⟨_, rfl⟩
  have HSP := Aside0.mk hs
  rw [hs] at HS
  clear hs
  replace t1 := decide_eq_false t1
  go_enter Try.func18, Try.ntmps18
  go_wp2_with fail
  (with_reducible refine (SpareR_c A0 c0 l _ s HSP.out HK.out (C_up HR.out HB)).mono ?_)
  rintro en w1 ⟨rfl, hb⟩
  have HU1 := Aside0.mk (Up.step HB hb)
  clear hb HB
  by_cases t2 : s < x
  · have hs := (if_pos t2).symm.trans HS.out
    simp only [Prod.mk.injEq] at hs
    obtain ⟨rfl, rfl⟩ := hs
    replace t2 := decide_eq_true t2
    go_wp2
    exact bodyPost_ret (v := .tuple #[.slice none 0 0, .int .i64 9]) (by simp [results, Try.results18, go_sem]) rfl ⟨_, rfl, Kd.R_nil _ _ _ _ _, HU1.out⟩
  have hs := (if_neg t2).symm.trans HS.out
  simp only [Prod.mk.injEq] at hs
  obtain ⟨hq, rfl⟩ := hs
  have HQ := Aside0.mk hq
  have HXS := Aside0.mk (show x ≤ s by omega)
  clear hq
  replace t2 := decide_eq_false t2
  have HB := HU1.out
  go_wp2
  go_loopg [6, 7] (l.length) (fun gk v6 v7 w' => ∃ i : Int, v7 = .int .i64 i ∧ 0 ≤ i ∧ i ≤ l.length ∧ l.length - i.toNat ≤ gk ∧ Aside0 (RI w' w.heap.size v6 (genL (sprI l) i.toNat)) ∧ Up w w')
  case atStart => exact ⟨0, rfl, by omega, by omega, by omega, ⟨Kd.R_nil _ _ _ _ _⟩, HB⟩
  case round =>
    clear HB
    obtain ⟨i, rfl, hi, hil, hg, HO, HB⟩ := hrel
    have HI := Aside0.mk hi
    have HIL := Aside0.mk hil
    have HG := Aside0.mk hg
    clear hil hg
    by_cases hlt : i < l.length
    · have HL := Aside0.mk hlt
      obtain ⟨ad, rfl⟩ : ∃ ad, A0 = some ad := by obtain ⟨ad, c, e, _⟩ := Kd.C_get HR.out zPond i hi hlt; exact ⟨ad, e⟩
      obtain ⟨hx0, hx1, hx2, hx3, hx4⟩ := rx_Pond HR.out
      have hb := sprI_b HK.out hi hlt
      obtain ⟨z, hz⟩ : ∃ z, sprI l i = z := ⟨_, rfl⟩
      have HZ := Aside0.mk hz
      rw [hz] at hb
      have hw1 : wrap64 ((rd_Pond l i).f1 - (rd_Pond l i).f2) = z := by rw [show (rd_Pond l i).f1 - (rd_Pond l i).f2 = z from hz]; unfold wrap64; omega
      have hw2 : IntKind.i64.wrap ((rd_Pond l i).f1 - (rd_Pond l i).f2) = z := (i64_w _).trans hw1
      have q1 := hx1 wr.drew i HB.drew hi hlt
      have q2 := hx2 wr.drew i HB.drew hi hlt
      have p1 := hx1 wr i HB hi hlt
      have p2 := hx2 wr i HB hi hlt
      have hlt2 := decide_eq_true hlt
      have HBA := Aside0.mk HB
      clear hb hz hx0 hx1 hx2 hx3 hx4 HB
      replace hi := eq_true hi; replace hlt := eq_true hlt
      go_upto_region 9 with (fail)
      go_region_law (refine Kd.R_append_step (Kd.int .i64) (w0 := w) w.heap.size rfl (.tmp 24) (.tmp 36) 40 3 _ 8 rfl Try.underlying40 infoInt rfl (by decide) (by decide) _ (genL (sprI l) i.toNat) z [.int .i64 z] (fun _ => True) (fun _ => False) (by simp [Act.eval, Act.put]) (by simp [Act.eval, Act.put]) rfl (fun _ h => h.elim) (fun _ _ => trivial) (Kd.R_drew HO.out) HBA.out.drew HBA.out.drew.size (by have := HK.out.1; have := HL.out; simp [genL_len]; omega) ?_; intro v1 w4 ho hb hg hat)
      all_goals
        have HO2 := Aside0.mk ho
        have HB2 := Aside0.mk (show Up w w4 from hb)
        clear ho hb hg hat q1 q2 p1 p2
        go_wp2
        go_roundg (gk - 1)
        case measure => have := HL.out; have := HI.out; have := HG.out; omega
        case rel => exact ⟨i + 1, (by first | rfl | (simp; done) | (have := HL.out; have := HI.out; have := HK.out.1; congr 1; unfold wrap64; omega)), by have := HI.out; omega, by have := HL.out; omega, by have := HL.out; have := HI.out; have := HG.out; omega, ⟨by rw [genL_step HI.out, HZ.out]; exact HO2.out⟩, HB2.out⟩
    · have HZ := Aside0.mk (show genL (sprI l) i.toNat = sprL l from genL_end hi (by have := HIL.out; omega))
      have hS := HO.out
      rw [HZ.out] at hS
      obtain ⟨SA, sc, rfl, -, hSC⟩ := Kd.R_reads hS
      have HBA := Aside0.mk HB
      have HSC := Aside0.mk hSC
      clear hS hSC HO HZ HI HIL HG hi HB
      rw [sprL_len] at HSC ⊢
      replace hlt := decide_eq_false hlt
      by_cases t3 : x = 0
      · skip
        subst t3
        go_wp2_with ((with_reducible refine gate_dst (N := 40) rfl ?_); refine Kd.R_make (Kd.int .i64) (w0 := w) w.heap.size 3 rfl (N := 40) rfl 40 (.tmp 39) (.tmp 39) rfl (l.length : Int) rfl rfl Try.underlying40 (.int .i64 0) 8 infoInt rfl (by decide) (by decide) 0 (ok := fun _ => True) (okp := fun _ => True) rfl (fun _ _ => trivial) trivial (by omega) ?aL ?aB ?aS ?_; (case aL => have := HL8.out; simp; omega); (case aB => exact HBA.out); (case aS => exact HBA.out.size); intro vP w5 hR hb hg hat)
        obtain ⟨ps, hps⟩ : ∃ ps, List.replicate (l.length : Int).toNat (0 : Int) = ps := ⟨_, rfl⟩
        have hp0 : ∀ i : Int, rd_Int ps i = 0 := fun i => by
          rw [← hps]; unfold rd_Int; rw [List.getD_eq_getElem?_getD, List.getElem?_replicate]; split <;> rfl
        have HPL := Aside0.mk (show ps.length = l.length by rw [← hps]; simp)
        rw [hps] at hR
        have HPP := Aside0.mk hR
        have HPB := Aside0.mk (show ∀ i : Int, 0 ≤ i → i < l.length → 0 ≤ rd_Int ps i ∧ rd_Int ps i ≤ (rd_Pond l i).f1 from fun i a b => by rw [hp0]; have h := HK.out.2 i a b; unfold ponOk at h; omega)
        have HRS := Aside0.mk (show R = genL (tkp l ps) l.length by
          rw [← HQ.out, takeL, if_pos rfl]
          refine (gen_self l).symm.trans (genL_congr fun i a b => ?_)
          unfold tkp; rw [hp0, Int.sub_zero])
        have HU5 := Aside0.mk (show Up w w5 from hb)
        clear hR hb hg hat hps hp0 HQ HSC
        go_loopg [9, 10, 11] (l.length) (fun gk v9 v10 _ w' => ∃ i : Int, v10 = .int .i64 i ∧ 0 ≤ i ∧ i ≤ l.length ∧ l.length - i.toNat ≤ gk ∧ Aside0 (RP w' w.heap.size v9 (genL (tkp l ps) i.toNat)) ∧ Aside0 (RI w' w.heap.size vP ps) ∧ Aside0 (Up w w'))
        case atStart => exact ⟨0, rfl, by omega, by omega, by omega, ⟨Kd.R_nil _ _ _ _ _⟩, HPP, HU5⟩
        case round =>
          clear HPP HU5
          obtain ⟨i, rfl, hi, hil, hg, HO, HPP, HB⟩ := hrel
          have HI := Aside0.mk hi
          have HIL := Aside0.mk hil
          have HG := Aside0.mk hg
          clear hil hg
          by_cases hlt : i < l.length
          · have HL := Aside0.mk hlt
            obtain ⟨ad, rfl⟩ : ∃ ad, A0 = some ad := by obtain ⟨ad, c, e, _⟩ := Kd.C_get HR.out zPond i hi hlt; exact ⟨ad, e⟩
            obtain ⟨hx0, hx1, hx2, hx3, hx4⟩ := rx_Pond HR.out
            have hx0 := hx0 _ i HB.out hi hlt
            have hx1 := hx1 _ i HB.out hi hlt
            have hx2 := hx2 _ i HB.out hi hlt
            have hx3 := hx3 _ i HB.out hi hlt
            have hx4 := hx4 _ i HB.out hi hlt
            obtain ⟨gP, cP, rfl, -⟩ := RI_form HPP.out (by have := HPL.out; have := HL.out; omega)
            have hips : i < ps.length := by have := HPL.out; have := HL.out; omega
            have HIPS := Aside0.mk hips
            obtain ⟨p, hp⟩ : ∃ p, rd_Int ps i = p := ⟨_, rfl⟩
            have HTK := Aside0.mk (show tkp l ps i = ⟨(rd_Pond l i).f0, (rd_Pond l i).f1 - p, (rd_Pond l i).f2, (rd_Pond l i).f3, (rd_Pond l i).f4⟩ by unfold tkp; rw [hp])
            have hb := HPB.out i hi hlt
            have hb2 := tot_b HK.out hi hlt
            rw [hp] at hb
            obtain ⟨z, hz⟩ : ∃ z, (rd_Pond l i).f1 - p = z := ⟨_, rfl⟩
            rw [hz] at HTK
            have hw1 : wrap64 ((rd_Pond l i).f1 - p) = z := by unfold wrap64; omega
            have hlt2 := decide_eq_true hlt
            replace hi := eq_true hi; replace hlt := eq_true hlt; replace hips := eq_true hips
            go_upto_region 18 with (fail)
            obtain ⟨W1, hW⟩ : ∃ W, W = wr.alloc (.cells #[.int .i64 (rd_Pond l i).f0, .int .i64 (rd_Pond l i).f1, .int .i64 (rd_Pond l i).f2, .int .i64 (rd_Pond l i).f3, .int .i64 (rd_Pond l i).f4] 38) := ⟨_, rfl⟩
            rw [← hW]
            have hk : W1.heap[wr.heap.size]? = some (.cells #[.int .i64 (rd_Pond l i).f0, .int .i64 (rd_Pond l i).f1, .int .i64 (rd_Pond l i).f2, .int .i64 (rd_Pond l i).f3, .int .i64 (rd_Pond l i).f4] 38 (0, 0)) := by rw [hW]; exact blk_new wr _
            have HUW := Aside0.mk (show Up wr W1 by rw [hW]; exact (Up.refl wr).alloc _)
            obtain ⟨gB, hgB⟩ : ∃ g, g = wr.heap.size := ⟨_, rfl⟩
            rw [← hgB] at hk ⊢
            have HGB := Aside0.mk (show wr.heap.size ≤ gB by omega)
            have q1 : W1.cell? ⟨gB, 1, none⟩ = some (.int .i64 (rd_Pond l i).f1) := (blk_cell hk 1).trans rfl
            have f1 := blk_frozen hk 1
            obtain ⟨p0, -⟩ := RI_cell (Kd.R_below HPP.out HUW.out) HI.out HIPS.out
            rw [hp] at p0
            have HKB := Aside0.mk hk
            clear hW hk hgB hx0 hx1 hx2 hx3 hx4 hb hb2 hp hz
            go_region
            all_goals
              generalize hY : World.drew _ = Y
              have hz1 := HGB.out
              have HUY := Aside0.mk (show Up wr Y by rw [← hY]; exact (HUW.out.set hz1).drew)
              have hkY : Y.heap[gB]? = some (.cells #[.int .i64 (rd_Pond l i).f0, .int .i64 z, .int .i64 (rd_Pond l i).f2, .int .i64 (rd_Pond l i).f3, .int .i64 (rd_Pond l i).f4] 38 (0, 0)) := by rw [← hY]; exact blk_drew (blk_put (cs' := #[.int .i64 (rd_Pond l i).f0, .int .i64 z, .int .i64 (rd_Pond l i).f2, .int .i64 (rd_Pond l i).f3, .int .i64 (rd_Pond l i).f4]) HKB.out 1 (.int .i64 z) rfl)
              clear hY p0 q1 f1 hz1
              have q0 : Y.cell? ⟨gB, 0, none⟩ = some (.int .i64 (rd_Pond l i).f0) := (blk_cell hkY 0).trans rfl
              have q1 : Y.cell? ⟨gB, 1, none⟩ = some (.int .i64 z) := (blk_cell hkY 1).trans rfl
              have q2 : Y.cell? ⟨gB, 2, none⟩ = some (.int .i64 (rd_Pond l i).f2) := (blk_cell hkY 2).trans rfl
              have q3 : Y.cell? ⟨gB, 3, none⟩ = some (.int .i64 (rd_Pond l i).f3) := (blk_cell hkY 3).trans rfl
              have q4 : Y.cell? ⟨gB, 4, none⟩ = some (.int .i64 (rd_Pond l i).f4) := (blk_cell hkY 4).trans rfl
              have HO := Aside0.mk (Kd.R_below HO.out HUY.out)
              have HPP := Aside0.mk (Kd.R_below HPP.out HUY.out)
              have HBY := Aside0.mk (Up.step HB.out HUY.out)
              go_wp2_with ((with_reducible refine gate_dst (N := 70) rfl ?_); refine Kd.R_append kPond (w0 := w) w.heap.size rfl (.tmp 67) (.tmp 69) 22 38 _ 40 rfl Try.underlying22 infoPond2 rfl (by decide) (by decide) _ (genL (tkp l ps) i.toNat) (⟨(rd_Pond l i).f0, z, (rd_Pond l i).f2, (rd_Pond l i).f3, (rd_Pond l i).f4⟩ : SPond) [.int .i64 (rd_Pond l i).f0, .int .i64 z, .int .i64 (rd_Pond l i).f2, .int .i64 (rd_Pond l i).f3, .int .i64 (rd_Pond l i).f4] (fun _ => True) (fun _ => False) rfl (by simp [Act.eval]) (kPond_mkM _ _ _ _) (fun _ h => h.elim) (fun _ _ => trivial) HO.out ?aB ?aS ?aL ?_; (case aB => exact HBY.out); (case aS => exact HBY.out.size); (case aL => have := HL8.out; have := HL.out; simp [genL_len]; omega); intro v1 w7 ho hb hg hat)
              have HP7 := Aside0.mk (Kd.R_over HPP.out HO.out intNotPond hg)
              have HO7 := Aside0.mk ho
              have HB7 := Aside0.mk (show Up w w7 from hb)
              clear ho hb hg hat q0 q1 q2 q3 q4
              go_wp2
              go_roundg (gk - 1)
              case measure => have := HL.out; have := HI.out; have := HG.out; omega
              case rel => exact ⟨i + 1, (by first | rfl | (simp; done) | (have := HL.out; have := HI.out; have := HL8.out; congr 1; unfold wrap64; omega)), by have := HI.out; omega, by have := HL.out; omega, by have := HL.out; have := HI.out; have := HG.out; omega, ⟨by rw [genL_step HI.out, HTK.out]; exact HO7.out⟩, HP7, HB7⟩
          · have HE := Aside0.mk (show genL (tkp l ps) i.toNat = R by rw [HRS.out]; exact genL_end hi (by have := HIL.out; omega))
            replace hlt := decide_eq_false hlt
            have hO := HO.out
            rw [HE.out] at hO
            have HO := Aside0.mk hO
            clear hO
            go_wp2
            exact bodyPost_ret (v := .tuple #[u9, .int .i64 0]) (by simp [results, Try.results18, go_sem]) rfl ⟨_, rfl, HO.out, HB.out⟩
      · skip
        have HXI := Aside0.mk (show 0 < x ∧ x ≤ sumI (sprL l) by have h1 := HSP.out; have := HXS.out; have := HX0.out; unfold spareS at h1; omega)
        have t4 := decide_eq_true (show 0 < x by have := HX0.out; omega)
        clear HX0
        go_wp2_with ((with_reducible refine gate_dst (N := 40) rfl ?_); refine Kd.R_make (Kd.int .i64) (w0 := w) w.heap.size 3 rfl (N := 40) rfl 40 (.tmp 39) (.tmp 39) rfl (l.length : Int) rfl rfl Try.underlying40 (.int .i64 0) 8 infoInt rfl (by decide) (by decide) 0 (ok := fun _ => True) (okp := fun _ => True) rfl (fun _ _ => trivial) trivial (by omega) ?aL ?aB ?aS ?_; (case aL => have := HL8.out; simp; omega); (case aB => exact HBA.out); (case aS => exact HBA.out.size); intro vP w5 hR hb hg hat; have HUA := Aside0.mk (show Up w w5 from hb); have hUB := gr_none_up hg; have HSC5 := Aside0.mk (C_up HSC.out hUB))
        clear hR hb hg hat
        (with_reducible refine (SplitR_n l.length _ sc (sprL l) x _ (sprL_len l) (spr_ok HK.out) HXI.out.1 HXI.out.2 HSC5.out).mono ?_)
        rintro en w6 ⟨vP, rfl, hR, hb⟩
        have HU5 := Aside0.mk (Up.step HUA.out hb)
        obtain ⟨ps, hps⟩ : ∃ ps, splitL x (sprL l) = ps := ⟨_, rfl⟩
        have HPL := Aside0.mk (show ps.length = l.length by rw [← hps]; exact (splitL_len _ _).trans (sprL_len l))
        have HPB := Aside0.mk (show ∀ i : Int, 0 ≤ i → i < l.length → 0 ≤ rd_Int ps i ∧ rd_Int ps i ≤ (rd_Pond l i).f1 from fun i a b => by
          have hsl := split_le (spr_ok HK.out) (x := x) (i := i) (by have := HXI.out; omega) (by have := HXI.out; omega) HXI.out.2 a (by rw [sprL_len]; exact b)
          rw [show rd_Int (sprL l) i = sprI l i from rdI_gen a b, hps] at hsl
          have h := HK.out.2 i a b; unfold ponOk at h; unfold sprI at hsl; omega)
        have HRS := Aside0.mk (show R = genL (tkp l ps) l.length by rw [← HQ.out, takeL, if_neg t3, ← hps]; rfl)
        rw [hps] at hR
        have HPP := Aside0.mk (Kd.R_lower hR HUA.out.size)
        clear hR hb hps t4 HQ HSC HXI HUA HSC5
        have t3n := bne_iff_ne.mpr t3; replace t3 := beq_eq_false_iff_ne.mpr t3
        go_wp2
        go_loopg [9, 10, 11] (l.length) (fun gk v9 v10 _ w' => ∃ i : Int, v10 = .int .i64 i ∧ 0 ≤ i ∧ i ≤ l.length ∧ l.length - i.toNat ≤ gk ∧ Aside0 (RP w' w.heap.size v9 (genL (tkp l ps) i.toNat)) ∧ Aside0 (RI w' w.heap.size vP ps) ∧ Aside0 (Up w w'))
        case atStart => exact ⟨0, rfl, by omega, by omega, by omega, ⟨Kd.R_nil _ _ _ _ _⟩, HPP, HU5⟩
        case round =>
          clear HPP HU5
          obtain ⟨i, rfl, hi, hil, hg, HO, HPP, HB⟩ := hrel
          have HI := Aside0.mk hi
          have HIL := Aside0.mk hil
          have HG := Aside0.mk hg
          clear hil hg
          by_cases hlt : i < l.length
          · have HL := Aside0.mk hlt
            obtain ⟨ad, rfl⟩ : ∃ ad, A0 = some ad := by obtain ⟨ad, c, e, _⟩ := Kd.C_get HR.out zPond i hi hlt; exact ⟨ad, e⟩
            obtain ⟨hx0, hx1, hx2, hx3, hx4⟩ := rx_Pond HR.out
            have hx0 := hx0 _ i HB.out hi hlt
            have hx1 := hx1 _ i HB.out hi hlt
            have hx2 := hx2 _ i HB.out hi hlt
            have hx3 := hx3 _ i HB.out hi hlt
            have hx4 := hx4 _ i HB.out hi hlt
            obtain ⟨gP, cP, rfl, -⟩ := RI_form HPP.out (by have := HPL.out; have := HL.out; omega)
            have hips : i < ps.length := by have := HPL.out; have := HL.out; omega
            have HIPS := Aside0.mk hips
            obtain ⟨p, hp⟩ : ∃ p, rd_Int ps i = p := ⟨_, rfl⟩
            have HTK := Aside0.mk (show tkp l ps i = ⟨(rd_Pond l i).f0, (rd_Pond l i).f1 - p, (rd_Pond l i).f2, (rd_Pond l i).f3, (rd_Pond l i).f4⟩ by unfold tkp; rw [hp])
            have hb := HPB.out i hi hlt
            have hb2 := tot_b HK.out hi hlt
            rw [hp] at hb
            obtain ⟨z, hz⟩ : ∃ z, (rd_Pond l i).f1 - p = z := ⟨_, rfl⟩
            rw [hz] at HTK
            have hw1 : wrap64 ((rd_Pond l i).f1 - p) = z := by unfold wrap64; omega
            have hlt2 := decide_eq_true hlt
            replace hi := eq_true hi; replace hlt := eq_true hlt; replace hips := eq_true hips
            go_upto_region 18 with (fail)
            obtain ⟨W1, hW⟩ : ∃ W, W = wr.alloc (.cells #[.int .i64 (rd_Pond l i).f0, .int .i64 (rd_Pond l i).f1, .int .i64 (rd_Pond l i).f2, .int .i64 (rd_Pond l i).f3, .int .i64 (rd_Pond l i).f4] 38) := ⟨_, rfl⟩
            rw [← hW]
            have hk : W1.heap[wr.heap.size]? = some (.cells #[.int .i64 (rd_Pond l i).f0, .int .i64 (rd_Pond l i).f1, .int .i64 (rd_Pond l i).f2, .int .i64 (rd_Pond l i).f3, .int .i64 (rd_Pond l i).f4] 38 (0, 0)) := by rw [hW]; exact blk_new wr _
            have HUW := Aside0.mk (show Up wr W1 by rw [hW]; exact (Up.refl wr).alloc _)
            obtain ⟨gB, hgB⟩ : ∃ g, g = wr.heap.size := ⟨_, rfl⟩
            rw [← hgB] at hk ⊢
            have HGB := Aside0.mk (show wr.heap.size ≤ gB by omega)
            have q1 : W1.cell? ⟨gB, 1, none⟩ = some (.int .i64 (rd_Pond l i).f1) := (blk_cell hk 1).trans rfl
            have f1 := blk_frozen hk 1
            obtain ⟨p0, -⟩ := RI_cell (Kd.R_below HPP.out HUW.out) HI.out HIPS.out
            rw [hp] at p0
            have HKB := Aside0.mk hk
            clear hW hk hgB hx0 hx1 hx2 hx3 hx4 hb hb2 hp hz
            go_region
            all_goals
              generalize hY : World.drew _ = Y
              have hz1 := HGB.out
              have HUY := Aside0.mk (show Up wr Y by rw [← hY]; exact (HUW.out.set hz1).drew)
              have hkY : Y.heap[gB]? = some (.cells #[.int .i64 (rd_Pond l i).f0, .int .i64 z, .int .i64 (rd_Pond l i).f2, .int .i64 (rd_Pond l i).f3, .int .i64 (rd_Pond l i).f4] 38 (0, 0)) := by rw [← hY]; exact blk_drew (blk_put (cs' := #[.int .i64 (rd_Pond l i).f0, .int .i64 z, .int .i64 (rd_Pond l i).f2, .int .i64 (rd_Pond l i).f3, .int .i64 (rd_Pond l i).f4]) HKB.out 1 (.int .i64 z) rfl)
              clear hY p0 q1 f1 hz1
              have q0 : Y.cell? ⟨gB, 0, none⟩ = some (.int .i64 (rd_Pond l i).f0) := (blk_cell hkY 0).trans rfl
              have q1 : Y.cell? ⟨gB, 1, none⟩ = some (.int .i64 z) := (blk_cell hkY 1).trans rfl
              have q2 : Y.cell? ⟨gB, 2, none⟩ = some (.int .i64 (rd_Pond l i).f2) := (blk_cell hkY 2).trans rfl
              have q3 : Y.cell? ⟨gB, 3, none⟩ = some (.int .i64 (rd_Pond l i).f3) := (blk_cell hkY 3).trans rfl
              have q4 : Y.cell? ⟨gB, 4, none⟩ = some (.int .i64 (rd_Pond l i).f4) := (blk_cell hkY 4).trans rfl
              have HO := Aside0.mk (Kd.R_below HO.out HUY.out)
              have HPP := Aside0.mk (Kd.R_below HPP.out HUY.out)
              have HBY := Aside0.mk (Up.step HB.out HUY.out)
              go_wp2_with ((with_reducible refine gate_dst (N := 70) rfl ?_); refine Kd.R_append kPond (w0 := w) w.heap.size rfl (.tmp 67) (.tmp 69) 22 38 _ 40 rfl Try.underlying22 infoPond2 rfl (by decide) (by decide) _ (genL (tkp l ps) i.toNat) (⟨(rd_Pond l i).f0, z, (rd_Pond l i).f2, (rd_Pond l i).f3, (rd_Pond l i).f4⟩ : SPond) [.int .i64 (rd_Pond l i).f0, .int .i64 z, .int .i64 (rd_Pond l i).f2, .int .i64 (rd_Pond l i).f3, .int .i64 (rd_Pond l i).f4] (fun _ => True) (fun _ => False) rfl (by simp [Act.eval]) (kPond_mkM _ _ _ _) (fun _ h => h.elim) (fun _ _ => trivial) HO.out ?aB ?aS ?aL ?_; (case aB => exact HBY.out); (case aS => exact HBY.out.size); (case aL => have := HL8.out; have := HL.out; simp [genL_len]; omega); intro v1 w7 ho hb hg hat)
              have HP7 := Aside0.mk (Kd.R_over HPP.out HO.out intNotPond hg)
              have HO7 := Aside0.mk ho
              have HB7 := Aside0.mk (show Up w w7 from hb)
              clear ho hb hg hat q0 q1 q2 q3 q4
              go_wp2
              go_roundg (gk - 1)
              case measure => have := HL.out; have := HI.out; have := HG.out; omega
              case rel => exact ⟨i + 1, (by first | rfl | (simp; done) | (have := HL.out; have := HI.out; have := HL8.out; congr 1; unfold wrap64; omega)), by have := HI.out; omega, by have := HL.out; omega, by have := HL.out; have := HI.out; have := HG.out; omega, ⟨by rw [genL_step HI.out, HTK.out]; exact HO7.out⟩, HP7, HB7⟩
          · have HE := Aside0.mk (show genL (tkp l ps) i.toNat = R by rw [HRS.out]; exact genL_end hi (by have := HIL.out; omega))
            replace hlt := decide_eq_false hlt
            have hO := HO.out
            rw [HE.out] at hO
            have HO := Aside0.mk hO
            clear hO
            go_wp2
            exact bodyPost_ret (v := .tuple #[u9, .int .i64 0]) (by simp [results, Try.results18, go_sem]) rfl ⟨_, rfl, HO.out, HB.out⟩

end Go.Proofs.Ytecpojiinappcaa.H
