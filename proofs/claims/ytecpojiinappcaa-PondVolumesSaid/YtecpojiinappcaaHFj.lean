import Derived.Test.YtecpojiinappcaaHK
import Derived.Test.YtecpojiinappcaaHFi
namespace Go.Proofs.Ytecpojiinappcaa.H
open Go.RowKit Go.Proofs.YtecpojiinappcaaW.PrintWords Go.Proofs.YtecpojiinappcaaW.PrintLast Go.Proofs.YtecpojiinappcaaW.PrintMore
set_option linter.unusedVariables false
set_option linter.unusedSimpArgs false
/-! Fill of the reference -/
set_option maxHeartbeats 16000000 in
theorem FillR_c (A0 : Option Addr) (c0 : Nat) (l : List SPond) (t : Int) (w : World) (R : List SPond) (n e : Int) (h : fillS l t = (R, n, e)) (hok : PB l) (hr0 : Kd.C kPond w A0 l.length l) :
    Calls Try.prog 21 #[.slice A0 l.length c0, .int .i64 t] w fun en w' => ∃ v, en = .returned (.tuple #[v, .int .i64 n, .int .i64 e]) ∧ RP w' w.heap.size v R ∧ Up w w' := by
  have hu := Try.underlying38
  have HR := Aside0.mk hr0
  have HK := Aside0.mk hok
  have HL8 := Aside0.mk hok.1
  have HS := Aside0.mk h
  have HB := Up.refl w
  clear hr0 hok h
  go_enter Try.func21, Try.ntmps21
  by_cases t1 : t < 0
  · have hs := (if_pos (Or.inl t1)).symm.trans HS.out
    simp only [Prod.mk.injEq] at hs
    obtain ⟨rfl, rfl, rfl⟩ := hs
    replace t1 := decide_eq_true t1
    go_wp2
    exact bodyPost_ret (v := .tuple #[.slice none 0 0, .int .i64 0, .int .i64 2]) (by simp [results, Try.results21, go_sem]) rfl ⟨_, rfl, Kd.R_nil _ _ _ _ _, HB⟩
  by_cases t2 : 86400 < t
  · have hs := (if_pos (Or.inr t2)).symm.trans HS.out
    simp only [Prod.mk.injEq] at hs
    obtain ⟨rfl, rfl, rfl⟩ := hs
    replace t1 := decide_eq_false t1
    replace t2 := decide_eq_true t2
    go_wp2
    exact bodyPost_ret (v := .tuple #[.slice none 0 0, .int .i64 0, .int .i64 2]) (by simp [results, Try.results21, go_sem]) rfl ⟨_, rfl, Kd.R_nil _ _ _ _ _, HB⟩
  have hs := (if_neg (show ¬ (t < 0 ∨ 86400 < t) by omega)).symm.trans HS.out
  simp only [Prod.mk.injEq] at hs
  obtain ⟨hq, hn, rfl⟩ := hs
  have HQ := Aside0.mk hq
  have HN := Aside0.mk hn
  have HT := Aside0.mk (show 0 ≤ t ∧ t ≤ 86400 by omega)
  clear hq hn
  replace t1 := decide_eq_false t1; replace t2 := decide_eq_false t2
  go_wp2
  go_loopg [7, 8, 9, 10, 11] (l.length) (fun gk v7 v8 v9 _ _ w' => ∃ (i s : Int), v8 = .int .i64 s ∧ v9 = .int .i64 i ∧ 0 ≤ i ∧ i ≤ l.length ∧ l.length - i.toNat ≤ gk ∧ Aside0 (sumTo (fun i => inF (rd_Pond l i) t) i.toNat = s) ∧ Aside0 (RP w' w.heap.size v7 (genL (fl l t) i.toNat)) ∧ Aside0 (Up w w'))
  case atStart => exact ⟨0, 0, rfl, rfl, by omega, by omega, by omega, ⟨rfl⟩, ⟨Kd.R_nil _ _ _ _ _⟩, ⟨HB⟩⟩
  case round =>
    clear HB
    obtain ⟨i, s, rfl, rfl, hi, hil, hg, HSU, HO, HB⟩ := hrel
    have HI := Aside0.mk hi
    have HIL := Aside0.mk hil
    have HG := Aside0.mk hg
    clear hil hg
    by_cases hlt : i < l.length
    · have HL := Aside0.mk hlt
      obtain ⟨ad, rfl⟩ : ∃ ad, A0 = some ad := by obtain ⟨ad, c, e, _⟩ := Kd.C_get HR.out zPond i hi hlt; exact ⟨ad, e⟩
      obtain ⟨hx0, hx1, hx2, hx3, hx4⟩ := rx_Pond HR.out
      have hx0 := hx0 _ i HB.out hi hlt
      have hx1 := hx1 _ i HB.out hi hlt
      have hx2 := hx2 _ i HB.out hi hlt
      have hx3 := hx3 _ i HB.out hi hlt
      have hx4 := hx4 _ i HB.out hi hlt
      have hpo := HK.out.2 i hi hlt
      have hin := inF_b hpo HT.out.1
      unfold ponOk at hpo
      have hsb := sumTo_rg (f := fun i => inF (rd_Pond l i) t) (n := l.length) (c := 1000000000) (i := i) (by omega) (fun k a b => by have h1 := HK.out.2 k a b; have h2 := inF_b h1 HT.out.1; unfold ponOk at h1; (try dsimp only); omega) hi (by omega)
      rw [HSU.out] at hsb
      have hml := mul_b hpo.2.2.2.2.2.1 hpo.2.2.2.2.2.2 HT.out.1 HT.out.2
      have hfl : fl l t i = ⟨(rd_Pond l i).f0, (rd_Pond l i).f1 + inF (rd_Pond l i) t, (rd_Pond l i).f2, (rd_Pond l i).f3, (rd_Pond l i).f4⟩ := rfl
      have HSS := Aside0.mk (show sumTo (fun i => inF (rd_Pond l i) t) (i + 1).toNat = s + inF (rd_Pond l i) t by rw [sumTo_step hi, HSU.out])
      obtain ⟨m, hm⟩ : ∃ m, (rd_Pond l i).f4 * t = m := ⟨_, rfl⟩
      obtain ⟨d, hd⟩ : ∃ d, m / 3600 = d := ⟨_, rfl⟩
      obtain ⟨q, hqq⟩ : ∃ q, (rd_Pond l i).f3 - (rd_Pond l i).f1 = q := ⟨_, rfl⟩
      obtain ⟨z, hz⟩ : ∃ z, inF (rd_Pond l i) t = z := ⟨_, rfl⟩
      have hzz : (if q < d then q else d) = z := by rw [← hz, ← hqq, ← hd, ← hm]; rfl
      rw [hm] at hml
      rw [hz] at hfl hin HSS
      have hmk : wrap64 ((rd_Pond l i).f4 * t) = m := by rw [hm]; unfold wrap64; omega
      have hdk : wrap64 (m.tdiv 3600) = d := by rw [Int.tdiv_eq_ediv_of_nonneg hml.1, hd]; unfold wrap64; omega
      have hqk : wrap64 ((rd_Pond l i).f3 - (rd_Pond l i).f1) = q := by rw [hqq]; unfold wrap64; omega
      obtain ⟨y, hy⟩ : ∃ y, (rd_Pond l i).f1 + z = y := ⟨_, rfl⟩
      obtain ⟨s2, hs2⟩ : ∃ y, s + z = y := ⟨_, rfl⟩
      have hyk : wrap64 ((rd_Pond l i).f1 + z) = y := by rw [hy]; unfold wrap64; omega
      have hsk : wrap64 (s + z) = s2 := by have := HL8.out; rw [hs2]; unfold wrap64; omega
      rw [hy] at hfl
      rw [hs2] at HSS
      have HFL := Aside0.mk hfl
      have hlt2 := decide_eq_true hlt
      clear hpo hin hsb hml hfl hm hd hqq hz hy hs2
      replace hi := eq_true hi; replace hlt := eq_true hlt
      go_upto_region 10 with (fail)
      generalize hW : wr.alloc (.cells #[.int .i64 (rd_Pond l i).f0, .int .i64 (rd_Pond l i).f1, .int .i64 (rd_Pond l i).f2, .int .i64 (rd_Pond l i).f3, .int .i64 (rd_Pond l i).f4] 38) = W1
      have hk : W1.heap[wr.heap.size]? = some (.cells #[.int .i64 (rd_Pond l i).f0, .int .i64 (rd_Pond l i).f1, .int .i64 (rd_Pond l i).f2, .int .i64 (rd_Pond l i).f3, .int .i64 (rd_Pond l i).f4] 38 (0, 0)) := by rw [← hW]; exact blk_new wr _
      have HUW := Aside0.mk (show Up wr W1 by rw [← hW]; exact (Up.refl wr).alloc _)
      obtain ⟨gB, hgB⟩ : ∃ g, g = wr.heap.size := ⟨_, rfl⟩
      rw [← hgB] at hk ⊢
      have HGB := Aside0.mk (show wr.heap.size ≤ gB by omega)
      have q1 : W1.cell? ⟨gB, 1, none⟩ = some (.int .i64 (rd_Pond l i).f1) := (blk_cell hk 1).trans rfl
      have f1 := blk_frozen hk 1
      have HKB := Aside0.mk hk
      clear hW hk hgB hx0 hx1 hx2 hx3 hx4
      go_upto_region 11 with (fail)
      generalize hY : World.setCell W1 _ _ = Y
      have hz1 := HGB.out
      have HUY := Aside0.mk (show Up wr Y by rw [← hY]; exact (HUW.out.set hz1))
      have hkY : Y.heap[gB]? = some (.cells #[.int .i64 (rd_Pond l i).f0, .int .i64 y, .int .i64 (rd_Pond l i).f2, .int .i64 (rd_Pond l i).f3, .int .i64 (rd_Pond l i).f4] 38 (0, 0)) := by rw [← hY]; exact blk_put (cs' := #[.int .i64 (rd_Pond l i).f0, .int .i64 y, .int .i64 (rd_Pond l i).f2, .int .i64 (rd_Pond l i).f3, .int .i64 (rd_Pond l i).f4]) HKB.out 1 (.int .i64 y) rfl
      clear hY q1 f1 hz1
      have q0 : Y.cell? ⟨gB, 0, none⟩ = some (.int .i64 (rd_Pond l i).f0) := (blk_cell hkY 0).trans rfl
      have q1 : Y.cell? ⟨gB, 1, none⟩ = some (.int .i64 y) := (blk_cell hkY 1).trans rfl
      have q2 : Y.cell? ⟨gB, 2, none⟩ = some (.int .i64 (rd_Pond l i).f2) := (blk_cell hkY 2).trans rfl
      have q3 : Y.cell? ⟨gB, 3, none⟩ = some (.int .i64 (rd_Pond l i).f3) := (blk_cell hkY 3).trans rfl
      have q4 : Y.cell? ⟨gB, 4, none⟩ = some (.int .i64 (rd_Pond l i).f4) := (blk_cell hkY 4).trans rfl
      have HO := Aside0.mk (Kd.R_below HO.out HUY.out)
      have HBY := Aside0.mk (Up.step HB.out HUY.out)
      go_wp2_with ((with_reducible refine gate_dst (N := 50) rfl ?_); refine Kd.R_append kPond (w0 := w) w.heap.size rfl (.tmp 47) (.tmp 49) 22 38 _ 40 rfl Try.underlying22 infoPond2 rfl (by decide) (by decide) _ (genL (fl l t) i.toNat) (⟨(rd_Pond l i).f0, y, (rd_Pond l i).f2, (rd_Pond l i).f3, (rd_Pond l i).f4⟩ : SPond) [.int .i64 (rd_Pond l i).f0, .int .i64 y, .int .i64 (rd_Pond l i).f2, .int .i64 (rd_Pond l i).f3, .int .i64 (rd_Pond l i).f4] (fun _ => True) (fun _ => False) rfl (by simp [Act.eval]) (kPond_mkM _ _ _ _) (fun _ h => h.elim) (fun _ _ => trivial) HO.out ?aB ?aS ?aL ?_; (case aB => exact HBY.out); (case aS => exact HBY.out.size); (case aL => have := HL8.out; have := HL.out; simp [genL_len]; omega); intro v1 w7 ho hb hg hat)
      have HO7 := Aside0.mk ho
      have HB7 := Aside0.mk (show Up w w7 from hb)
      clear ho hb hg hat q0 q1 q2 q3 q4
      go_wp2
      go_roundg (gk - 1)
      case measure => have := HL.out; have := HI.out; have := HG.out; omega
      case rel => exact ⟨i + 1, s2, (by first | rfl | (congr 1; done)), (by first | rfl | (simp; done) | (have := HL.out; have := HI.out; have := HL8.out; congr 1; unfold wrap64; omega)), by have := HI.out; omega, by have := HL.out; omega, by have := HL.out; have := HI.out; have := HG.out; omega, HSS, ⟨by rw [genL_step HI.out, HFL.out]; exact HO7.out⟩, HB7⟩
    · have HE := Aside0.mk (show genL (fl l t) i.toNat = R by rw [← HQ.out]; exact genL_end hi (by have := HIL.out; omega))
      have HE2 := Aside0.mk (show s = n by rw [← HSU.out, ← HN.out, inS, show i.toNat = l.length by have := HIL.out; omega])
      replace hlt := decide_eq_false hlt
      go_wp2
      exact bodyPost_ret (v := .tuple #[u7, .int .i64 s, .int .i64 0]) (by simp [results, Try.results21, go_sem]) rfl ⟨_, by rw [HE2.out], by rw [← HE.out]; exact HO.out, HB.out⟩

end Go.Proofs.Ytecpojiinappcaa.H
