import Derived.Test.YtecpojiinappcaaHK
import Derived.Test.YtecpojiinappcaaHLp
namespace Go.Proofs.Ytecpojiinappcaa.H
open Go.RowKit Go.Proofs.YtecpojiinappcaaW.PrintWords Go.Proofs.YtecpojiinappcaaW.PrintLast Go.Proofs.YtecpojiinappcaaW.PrintMore
set_option linter.unusedVariables false
set_option linter.unusedSimpArgs false
/-! PondVolumes -/
attribute [local go_sem] undef
attribute [local go_sem high] eqA38
def sameBut (l ys : List SPond) : Prop := ∀ k : Int, 0 ≤ k → k < l.length → rd_Pond ys k = ⟨(rd_Pond l k).f0, (rd_Pond ys k).f1, (rd_Pond l k).f2, (rd_Pond l k).f3, (rd_Pond l k).f4⟩
theorem sameBut_take {l ys : List SPond} {x : Int} (h : sameBut l ys) (hl : ys.length = l.length) (hok : PB ys) (h0 : 0 ≤ x) (h1 : x ≤ spareS ys) : sameBut l (takeL ys x) := fun k a b => by
  obtain ⟨p, e, -⟩ := takeL_rd hok h0 h1 a (by omega)
  have := h k a b
  rw [e, this]
theorem sameBut_fill {l ys : List SPond} {t : Int} (h : sameBut l ys) (hl : ys.length = l.length) : sameBut l (genL (fl ys t) ys.length) := fun k a b => by
  have := h k a b
  rw [rdP_gen a (by omega)]; unfold fl; rw [this]
theorem tot_rg {l : List SPond} (h : PB l) : 0 ≤ totalS l ∧ totalS l ≤ 8000000000 := by
  have := sumTo_rg (f := fun i => (rd_Pond l i).f1) (n := l.length) (c := 1000000000) (i := l.length) (by omega) (fun k a b => tot_b h a b) (by omega) (by omega)
  rw [Int.toNat_natCast] at this
  have := h.1; unfold totalS; omega
theorem take_cases {l : List SPond} {x e : Int} {R : List SPond} (h : takeS l x = (R, e)) (he : e = 0) : 0 ≤ x ∧ x ≤ spareS l ∧ R = takeL l x := by
  subst he; unfold takeS at h
  split at h
  · simp at h
  · split at h
    · simp at h
    · simp at h; exact ⟨by omega, by omega, h.symm⟩
theorem fill_cases {l : List SPond} {t m e : Int} {R : List SPond} (h : fillS l t = (R, m, e)) (he : e = 0) : 0 ≤ t ∧ R = genL (fl l t) l.length ∧ m = inS l t := by
  subst he; unfold fillS at h
  split at h
  · simp at h
  · simp at h; exact ⟨by omega, h.1.symm, h.2.symm⟩
set_option maxHeartbeats 16000000 in
set_option maxRecDepth 100000 in
theorem PondVolumes_c (A0 : Option Addr) (c0 : Nat) (l : List SPond) (B0 : Option Addr) (d0 : Nat) (ops : List SLOp) (w : World) (hr0 : Kd.C kPond w A0 l.length l) (hc0 : l.length ≤ c0) (hr1 : Kd.C kLOp w B0 ops.length ops) :
    Calls Try.prog 6 #[.slice A0 l.length c0, .slice B0 ops.length d0] w fun e w' => e = .returned (.bool true) ∧ Up w w' := by
  have hu := Try.underlying38
  have hu2 := Try.underlying36
  have HR := Aside0.mk hr0
  have HR1 := Aside0.mk hr1
  have HC0 := Aside0.mk hc0
  have HB := Up.refl w
  clear hr0 hr1 hc0
  go_enter Try.func6, Try.ntmps6
  go_wp2_with fail
  (with_reducible refine (alive_c _).mono ?_)
  rintro e w1 ⟨rfl, HB1⟩
  obtain ⟨b, hb⟩ : ∃ b, (ponR l == 0) = b := ⟨_, rfl⟩
  have HL := Aside0.mk hb
  clear hb
  go_wp2_with fail
  (with_reducible refine (lawRight_c A0 c0 l _ b HL.out (C_up HR.out HB1)).mono ?_)
  rintro e w2 ⟨rfl, hb⟩
  have HB2 := Up.step HB1 hb
  clear hb
  cases b
  · go_wp2
    go_ret
    exact ⟨rfl, HB2⟩
  by_cases hn : (60 : Int) < ops.length
  · replace hn := decide_eq_true hn
    go_wp2
    go_ret
    exact ⟨rfl, HB2⟩
  have HN := Aside0.mk hn
  replace hn := decide_eq_false hn
  have HR0 := Aside0.mk (beq_iff_eq.1 HL.out)
  have HP := Aside0.mk (ponR_ok HR0.out)
  obtain ⟨s0, hs⟩ : ∃ s, totalS l = s := ⟨_, rfl⟩
  have HS := Aside0.mk hs
  clear hs
  go_wp2_with fail
  (with_reducible refine (Total_c A0 c0 l _ s0 HS.out HP.out (C_up HR.out HB2)).mono ?_)
  rintro e w3 ⟨rfl, hb⟩
  have HB3 := Aside0.mk (Up.step HB2 hb)
  have HRA := Aside0.mk (C_up HR.out HB3.out)
  clear hb HB2 HB1 HB
  go_wp2
  go_loopg [0, 5, 7, 8, 9, 10, 11, 12, 13, 14] (ops.length) (fun gk v0 v5 v7 _ _ _ _ _ _ _ w' => ∃ (i s : Int) (ys : List SPond) (YA : Option Addr) (yc : Nat), v0 = .slice YA l.length yc ∧ v5 = .int .i64 s ∧ v7 = .int .i64 i ∧ 0 ≤ i ∧ ops.length - i.toNat ≤ gk ∧ Aside0 (l.length ≤ yc ∧ Kd.C kPond w' YA l.length ys) ∧ Aside0 (ys.length = l.length ∧ ponR ys = 0 ∧ totalS ys = s ∧ sameBut l ys) ∧ Aside0 (Up w w'))
  case atStart => exact ⟨0, s0, l, A0, c0, rfl, rfl, rfl, by omega, by omega, ⟨HC0.out, HRA.out⟩, ⟨rfl, HR0.out, HS.out, fun k a b => rfl⟩, HB3⟩
  case round =>
    clear HB3 HRA
    obtain ⟨i, s, ys, YA, yc, rfl, rfl, rfl, hi, hg, HCY, HY, HB⟩ := hrel
    have HI := Aside0.mk hi
    have HG := Aside0.mk hg
    obtain ⟨ga, rfl⟩ : ∃ z : Nat, z = gk := ⟨_, rfl⟩
    clear hg
    by_cases hlt : i < ops.length
    rotate_left
    · replace hlt := decide_eq_false hlt
      go_wp2
      go_ret
      exact ⟨rfl, HB.out⟩
    have HLT := Aside0.mk hlt
    have hlt2 := decide_eq_true hlt
    obtain ⟨od, rfl⟩ : ∃ ad, B0 = some ad := by obtain ⟨ad, c, e, _⟩ := Kd.C_get HR1.out zLOp i hi hlt; exact ⟨ad, e⟩
    obtain ⟨o0, o1⟩ := rx_LOp HR1.out
    have O0 := Aside0.mk (fun W (u : Up wr W) => o0 W i (Up.step HB.out u) hi hlt)
    have O1 := Aside0.mk (fun W (u : Up wr W) => o1 W i (Up.step HB.out u) hi hlt)
    obtain ⟨k, hk⟩ : ∃ k, (rd_LOp ops i).f0 = k := ⟨_, rfl⟩
    obtain ⟨t, ht⟩ : ∃ t, (rd_LOp ops i).f1 = t := ⟨_, rfl⟩
    rw [hk] at O0
    rw [ht] at O1
    have p0 := O0.out _ (Up.refl wr)
    have p1 := O1.out _ (Up.refl wr)
    have HPY := Aside0.mk (ponR_ok HY.out.2.1)
    have HTR := Aside0.mk (tot_rg HPY.out)
    obtain ⟨RF, mF, eF, hF⟩ : ∃ (R : List SPond) (m e : Int), fillS ys t = (R, m, e) := ⟨_, _, _, rfl⟩
    obtain ⟨RT, eT, hT⟩ : ∃ (R : List SPond) (e : Int), takeS ys t = (R, e) := ⟨_, _, rfl⟩
    have HF := Aside0.mk hF
    have HT := Aside0.mk hT
    clear o0 o1 hk ht hF hT
    replace hi := eq_true hi; replace hlt := eq_true hlt
    cases k
    by_cases tk : eT = 0
    rotate_left
    rotate_left
    by_cases te : eF = 0
    all_goals
      first | (have te' : eF = 0 := te; subst te'; clear te; obtain ⟨ht0, hRR, hmm⟩ := fill_cases HF.out rfl; obtain ⟨s2, hs2⟩ : ∃ z, s + mF = z := ⟨_, rfl⟩; have hy1 := HY.out; have HY2 := Aside0.mk (show RF.length = l.length ∧ ponR RF = 0 ∧ totalS RF = s2 ∧ sameBut l RF by rw [hRR]; exact ⟨(genL_len _ _).trans hy1.1, fill_right hy1.2.1 ht0, by rw [fill_sum, hy1.2.2.1, ← hmm, hs2], sameBut_fill hy1.2.2.2 hy1.1⟩); have hrg := tot_rg (ponR_ok HY2.out.2.1); rw [HY2.out.2.2.1] at hrg; have hw : wrap64 (s + mF) = s2 := (by rw [hs2]; unfold wrap64; omega); have HYL := Aside0.mk hy1.1; clear ht0 hRR hmm hs2 hy1 hrg; go_wp2_with fail; (with_reducible refine (Fill_n l.length YA yc ys t _ RF mF 0 HYL.out HF.out HPY.out HCY.out.2).mono ?_); rintro e w4 ⟨v, rfl, hR, hb⟩; obtain ⟨A2, yc2, rfl, hle, hC⟩ := Kd.R_reads hR; rw [HY2.out.1] at hC hle ⊢; have HC2 := Aside0.mk (And.intro hle hC); have HB4 := Aside0.mk (Up.step HB.out hb); have O1 := Aside0.mk (O1.out _ hb); clear hR hb hle hC p0 p1; obtain ⟨ys2, hys2⟩ : ∃ z, z = RF := ⟨_, rfl⟩; rw [← hys2] at HY2 HC2; clear hys2 O1) | (have te' : ¬ eF = 0 := te; clear te; obtain ⟨s2, hs2⟩ : ∃ z, s = z := ⟨_, rfl⟩; have HYL := Aside0.mk HY.out.1; have te'n := bne_iff_ne.mpr te'; replace te' := beq_eq_false_iff_ne.mpr te'; go_wp2_with fail; (with_reducible refine (Fill_n l.length YA yc ys t _ RF mF eF HYL.out HF.out HPY.out HCY.out.2).mono ?_); rintro e w4 ⟨v, rfl, -, hb⟩; have HC2 := Aside0.mk (And.intro HCY.out.1 (C_up HCY.out.2 hb)); have HB4 := Aside0.mk (Up.step HB.out hb); have HY2 := HY; rw [hs2] at HY2 ⊢; clear hb p0 p1; obtain ⟨ys2, hys2⟩ : ∃ z, z = ys := ⟨_, rfl⟩; rw [← hys2] at HY2 HC2; clear hys2 hs2; obtain ⟨A2, hA2⟩ : ∃ z, z = YA := ⟨_, rfl⟩; obtain ⟨yc2, hyc2⟩ : ∃ z, z = yc := ⟨_, rfl⟩; rw [← hA2, ← hyc2] at HC2 ⊢; clear hA2 hyc2) | (have tk' : eT = 0 := tk; subst tk'; clear tk; obtain ⟨ht0, ht1, hRR⟩ := take_cases HT.out rfl; obtain ⟨s2, hs2⟩ : ∃ z, s - t = z := ⟨_, rfl⟩; have hy1 := HY.out; have HY2 := Aside0.mk (show RT.length = l.length ∧ ponR RT = 0 ∧ totalS RT = s2 ∧ sameBut l RT by rw [hRR]; exact ⟨(takeL_len _ _).trans hy1.1, take_right hy1.2.1 ht0 ht1, by rw [take_sum HPY.out ht0 ht1, hy1.2.2.1, hs2], sameBut_take hy1.2.2.2 hy1.1 HPY.out ht0 ht1⟩); have hrg := tot_rg (ponR_ok HY2.out.2.1); rw [HY2.out.2.2.1] at hrg; have hw : wrap64 (s - t) = s2 := (by rw [hs2]; unfold wrap64; omega); have HYL := Aside0.mk hy1.1; clear ht0 ht1 hRR hs2 hy1 hrg; go_wp2_with fail; (with_reducible refine (Take_n l.length YA yc ys t _ RT 0 HYL.out HT.out HPY.out HCY.out.2).mono ?_); rintro e w4 ⟨v, rfl, hR, hb⟩; obtain ⟨A2, yc2, rfl, hle, hC⟩ := Kd.R_reads hR; rw [HY2.out.1] at hC hle ⊢; have HC2 := Aside0.mk (And.intro hle hC); have HB4 := Aside0.mk (Up.step HB.out hb); have o4 := O1.out _ hb; have o5 := O1.out _ hb.drew; clear hR hle hC p0 p1; go_upto_region 16 with (fail); go_quiet (fail); rw [hw]; have HC2 := Aside0.mk (And.intro HC2.out.1 (C_up HC2.out.2 ((Up.refl w4).drewN nq))); have HB4 := Aside0.mk (HB4.out.drewN nq); generalize w4.drewN nq = w4 at HC2 HB4 ⊢; clear o4 o5 hb; obtain ⟨ys2, hys2⟩ : ∃ z, z = RT := ⟨_, rfl⟩; rw [← hys2] at HY2 HC2; clear hys2) | (have tk' : ¬ eT = 0 := tk; clear tk; obtain ⟨s2, hs2⟩ : ∃ z, s = z := ⟨_, rfl⟩; have HYL := Aside0.mk HY.out.1; have tk'n := bne_iff_ne.mpr tk'; replace tk' := beq_eq_false_iff_ne.mpr tk'; go_wp2_with fail; (with_reducible refine (Take_n l.length YA yc ys t _ RT eT HYL.out HT.out HPY.out HCY.out.2).mono ?_); rintro e w4 ⟨v, rfl, -, hb⟩; have HC2 := Aside0.mk (And.intro HCY.out.1 (C_up HCY.out.2 hb)); have HB4 := Aside0.mk (Up.step HB.out hb); have HY2 := HY; rw [hs2] at HY2 ⊢; clear hb p0 p1; obtain ⟨ys2, hys2⟩ : ∃ z, z = ys := ⟨_, rfl⟩; rw [← hys2] at HY2 HC2; clear hys2 hs2; obtain ⟨A2, hA2⟩ : ∃ z, z = YA := ⟨_, rfl⟩; obtain ⟨yc2, hyc2⟩ : ∃ z, z = yc := ⟨_, rfl⟩; rw [← hA2, ← hyc2] at HC2 ⊢; clear hA2 hyc2)
      have HY2L := Aside0.mk HY2.out.1
      have HY2R := Aside0.mk HY2.out.2.1
      have HY2T := Aside0.mk HY2.out.2.2.1
      have HPY2 := Aside0.mk (ponR_ok HY2R.out)
      have HC21 := Aside0.mk HC2.out.1
      have HC22 := Aside0.mk HC2.out.2
      clear HC2
      go_wp2_with fail
      (with_reducible refine (Total_n l.length A2 yc2 ys2 _ s2 HY2L.out HY2T.out HPY2.out HC22.out).mono ?_)
      rintro e w5 ⟨rfl, hb⟩
      have HC22 := Aside0.mk (C_up HC22.out hb)
      have HB5 := Aside0.mk (Up.step HB4.out hb)
      clear hb
      have hss : (s2 != s2) = false := bne_self_eq_false s2
      go_wp2_with fail
      (with_reducible refine (Right_n l.length A2 yc2 ys2 _ 0 HY2L.out HY2R.out HC22.out HC21.out).mono ?_)
      rintro e w6 ⟨rfl, hb⟩
      have HC22 := Aside0.mk (C_up HC22.out hb)
      have HB6 := Aside0.mk (Up.step HB5.out hb)
      have HRA := Aside0.mk (C_up HR.out HB6.out)
      clear hb
      have HB := Up.refl w6
      go_wp2
      go_loopg [13, 14] (l.length) (fun gk v13 _ w' => ∃ k : Int, v13 = .int .i64 k ∧ 0 ≤ k ∧ l.length - k.toNat ≤ gk ∧ Aside0 (Up w6 w'))
      case atStart => exact ⟨0, rfl, by omega, by omega, ⟨HB⟩⟩
      case round =>
        clear HB
        obtain ⟨j, rfl, hj, hg, HBJ⟩ := hrel
        have HJ := Aside0.mk hj
        have HGJ := Aside0.mk hg
        clear hg
        by_cases hlj : j < l.length
        · have HLJ := Aside0.mk hlj
          obtain ⟨fd, rfl⟩ : ∃ ad, A0 = some ad := by obtain ⟨ad, c, e, _⟩ := Kd.C_get HRA.out zPond j hj hlj; exact ⟨ad, e⟩
          obtain ⟨yd, rfl⟩ : ∃ ad, A2 = some ad := by obtain ⟨ad, c, e, _⟩ := Kd.C_get HC22.out zPond j hj hlj; exact ⟨ad, e⟩
          obtain ⟨a0, a1, a2, a3, a4⟩ := rx_Pond HRA.out
          obtain ⟨y0, y1, y2, y3, y4⟩ := rx_Pond HC22.out
          have hsb := HY2.out.2.2.2 j hj hlj
          have hpo := HPY2.out.2 j hj (by have := HY2L.out; omega)
          rw [hsb] at hpo
          unfold ponOk at hpo
          dsimp only at hpo
          obtain ⟨V, hV⟩ : ∃ z, (rd_Pond ys2 j).f1 = z := ⟨_, rfl⟩
          rw [hV] at hsb hpo
          have a0 := a0 _ j HBJ.out hj hlj
          have a1 := a1 _ j HBJ.out hj hlj
          have a2 := a2 _ j HBJ.out hj hlj
          have a3 := a3 _ j HBJ.out hj hlj
          have a4 := a4 _ j HBJ.out hj hlj
          have z0 := fun W u => y0 W j (Up.step HBJ.out u) hj hlj
          have z1 := fun W u => y1 W j (Up.step HBJ.out u) hj hlj
          have z2 := fun W u => y2 W j (Up.step HBJ.out u) hj hlj
          have z3 := fun W u => y3 W j (Up.step HBJ.out u) hj hlj
          have z4 := fun W u => y4 W j (Up.step HBJ.out u) hj hlj
          rw [hsb] at z0 z1 z2 z3 z4
          dsimp only at z0 z1 z2 z3 z4
          obtain ⟨f0, hf0⟩ : ∃ z, (rd_Pond l j).f0 = z := ⟨_, rfl⟩
          obtain ⟨f1, hf1⟩ : ∃ z, (rd_Pond l j).f1 = z := ⟨_, rfl⟩
          obtain ⟨f2, hf2⟩ : ∃ z, (rd_Pond l j).f2 = z := ⟨_, rfl⟩
          obtain ⟨f3, hf3⟩ : ∃ z, (rd_Pond l j).f3 = z := ⟨_, rfl⟩
          obtain ⟨f4, hf4⟩ : ∃ z, (rd_Pond l j).f4 = z := ⟨_, rfl⟩
          rw [hf0] at a0 z0
          rw [hf1] at a1
          rw [hf2] at a2 z2 hpo
          rw [hf3] at a3 z3 hpo
          rw [hf4] at a4 z4
          have Z0 := Aside0.mk z0
          have Z1 := Aside0.mk z1
          have Z2 := Aside0.mk z2
          have Z3 := Aside0.mk z3
          have Z4 := Aside0.mk z4
          have v1 : decide (V < f2) = false := decide_eq_false (by omega)
          have v2 : decide (f3 < V) = false := decide_eq_false (by omega)
          have hlj2 := decide_eq_true hlj
          clear y0 y1 y2 y3 y4 z0 z1 z2 z3 z4 hsb hpo hV hf0 hf1 hf2 hf3 hf4
          replace hj := eq_true hj; replace hlj := eq_true hlj
          go_upto_region 23 with (fail)
          generalize hW : wr.alloc (.cells #[.int .i64 f0, .int .i64 f1, .int .i64 f2, .int .i64 f3, .int .i64 f4] 38) = W1
          have hk : W1.heap[wr.heap.size]? = some (.cells #[.int .i64 f0, .int .i64 f1, .int .i64 f2, .int .i64 f3, .int .i64 f4] 38 (0, 0)) := by rw [← hW]; exact blk_new wr _
          have HUW := Aside0.mk (show Up wr W1 by rw [← hW]; exact (Up.refl wr).alloc _)
          obtain ⟨gB, hgB⟩ : ∃ g, g = wr.heap.size := ⟨_, rfl⟩
          rw [← hgB] at hk ⊢
          have HGB := Aside0.mk (show wr.heap.size ≤ gB by omega)
          have q1 : W1.cell? ⟨gB, 1, none⟩ = some (.int .i64 f1) := (blk_cell hk 1).trans rfl
          have fz := blk_frozen hk 1
          have hz1 := Z1.out _ HUW.out
          have HKB := Aside0.mk hk
          clear hW hk hgB a0 a1 a2 a3 a4
          go_upto_region 24 with (fail)
          generalize hY : World.setCell W1 _ _ = Y
          have hgb := HGB.out
          have HUY := Aside0.mk (show Up wr Y by rw [← hY]; exact (HUW.out.set hgb))
          have hkY : Y.heap[gB]? = some (.cells #[.int .i64 f0, .int .i64 V, .int .i64 f2, .int .i64 f3, .int .i64 f4] 38 (0, 0)) := by rw [← hY]; exact blk_put (cs' := #[.int .i64 f0, .int .i64 V, .int .i64 f2, .int .i64 f3, .int .i64 f4]) HKB.out 1 (.int .i64 V) rfl
          clear hY q1 fz hgb hz1
          have B0 := Aside0.mk (show ∀ W, Up Y W → W.cell? ⟨gB, 0, none⟩ = some (.int .i64 f0) from fun W u => (blk_cell (Up.blk u hkY) 0).trans rfl)
          have B1 := Aside0.mk (show ∀ W, Up Y W → W.cell? ⟨gB, 1, none⟩ = some (.int .i64 V) from fun W u => (blk_cell (Up.blk u hkY) 1).trans rfl)
          have B2 := Aside0.mk (show ∀ W, Up Y W → W.cell? ⟨gB, 2, none⟩ = some (.int .i64 f2) from fun W u => (blk_cell (Up.blk u hkY) 2).trans rfl)
          have B3 := Aside0.mk (show ∀ W, Up Y W → W.cell? ⟨gB, 3, none⟩ = some (.int .i64 f3) from fun W u => (blk_cell (Up.blk u hkY) 3).trans rfl)
          have B4 := Aside0.mk (show ∀ W, Up Y W → W.cell? ⟨gB, 4, none⟩ = some (.int .i64 f4) from fun W u => (blk_cell (Up.blk u hkY) 4).trans rfl)
          clear hkY
          first | (go_region_held3 (fun w' => Up Y w' ∧ w'.cell? (yd.add (j.toNat * 5)) = some (.int .i64 f0) ∧ w'.cell? ⟨(yd.add (j.toNat * 5)).block, (yd.add (j.toNat * 5)).off + 1, none⟩ = some (.int .i64 V) ∧ w'.cell? ⟨(yd.add (j.toNat * 5)).block, (yd.add (j.toNat * 5)).off + 2, none⟩ = some (.int .i64 f2) ∧ w'.cell? ⟨(yd.add (j.toNat * 5)).block, (yd.add (j.toNat * 5)).off + 3, none⟩ = some (.int .i64 f3) ∧ w'.cell? ⟨(yd.add (j.toNat * 5)).block, (yd.add (j.toNat * 5)).off + 4, none⟩ = some (.int .i64 f4) ∧ w'.cell? ⟨gB, 0, none⟩ = some (.int .i64 f0) ∧ w'.cell? ⟨gB, 1, none⟩ = some (.int .i64 V) ∧ w'.cell? ⟨gB, 2, none⟩ = some (.int .i64 f2) ∧ w'.cell? ⟨gB, 3, none⟩ = some (.int .i64 f3) ∧ w'.cell? ⟨gB, 4, none⟩ = some (.int .i64 f4)) (first | (have hU_ := (Up.refl Y).drew; exact ⟨hU_, Z0.out _ (Up.step HUY.out hU_), Z1.out _ (Up.step HUY.out hU_), Z2.out _ (Up.step HUY.out hU_), Z3.out _ (Up.step HUY.out hU_), Z4.out _ (Up.step HUY.out hU_), B0.out _ hU_, B1.out _ hU_, B2.out _ hU_, B3.out _ hU_, B4.out _ hU_⟩) | (have hU_ : Up Y _ := (by assumption); exact ⟨hU_, Z0.out _ (Up.step HUY.out hU_), Z1.out _ (Up.step HUY.out hU_), Z2.out _ (Up.step HUY.out hU_), Z3.out _ (Up.step HUY.out hU_), Z4.out _ (Up.step HUY.out hU_), B0.out _ hU_, B1.out _ hU_, B2.out _ hU_, B3.out _ hU_, B4.out _ hU_⟩)) (fail)) | fail
          all_goals
            have HZ := Aside0.mk ((Up.refl Y).drew)
            generalize Y.drew = W3 at HZ ⊢
            go_wp2
            go_roundg (gk - 1)
            case measure => have := HLJ.out; have := HJ.out; have := HGJ.out; omega
            case rel => exact ⟨j + 1, (by first | rfl | (simp; done) | (have := HLJ.out; have := HJ.out; have := HP.out.1; congr 1; unfold wrap64; omega)), by have := HJ.out; omega, by have := HLJ.out; have := HJ.out; have := HGJ.out; omega, ⟨Up.step (Up.step HBJ.out HUY.out) HZ.out⟩⟩
        · replace hlj := decide_eq_false hlj
          go_wp2
          go_roundg (ga - 1)
          case measure => have := HLT.out; have := HI.out; have := HG.out; omega
          case rel => exact ⟨i + 1, s2, ys2, A2, yc2, (by first | rfl | (congr 1; done)), (by first | rfl | (congr 1; done)), (by first | rfl | (simp; done) | (have := HLT.out; have := HI.out; have := HN.out; congr 1; unfold wrap64; omega)), by have := HI.out; omega, by have := HLT.out; have := HI.out; have := HG.out; omega, ⟨HC21.out, C_up HC22.out HBJ.out⟩, HY2, ⟨Up.step HB6.out HBJ.out⟩⟩

end Go.Proofs.Ytecpojiinappcaa.H
