import Derived.Test.YtecpojiinappcaaHK
import Derived.Test.YtecpojiinappcaaHPn
namespace Go.Proofs.Ytecpojiinappcaa.H
open Go.RowKit Go.Proofs.YtecpojiinappcaaW.PrintWords Go.Proofs.YtecpojiinappcaaW.PrintLast Go.Proofs.YtecpojiinappcaaW.PrintMore
set_option linter.unusedVariables false
set_option linter.unusedSimpArgs false
/-! Fill of both -/
def inF (p : SPond) (t : Int) : Int := if p.f3 - p.f1 < p.f4 * t / 3600 then p.f3 - p.f1 else p.f4 * t / 3600
def fl (l : List SPond) (t i : Int) : SPond := ⟨(rd_Pond l i).f0, (rd_Pond l i).f1 + inF (rd_Pond l i) t, (rd_Pond l i).f2, (rd_Pond l i).f3, (rd_Pond l i).f4⟩
def inS (l : List SPond) (t : Int) : Int := sumTo (fun i => inF (rd_Pond l i) t) l.length
def fillS (l : List SPond) (t : Int) : List SPond × Int × Int := if t < 0 ∨ 86400 < t then ([], 0, 2) else (genL (fl l t) l.length, inS l t, 0)
theorem inF_b {p : SPond} {t : Int} (h : ponOk p) (h0 : 0 ≤ t) : 0 ≤ inF p t ∧ inF p t ≤ p.f3 - p.f1 := by
  unfold ponOk at h
  have := Int.ediv_nonneg (Int.mul_nonneg h.2.2.2.2.2.1 h0) (show (0 : Int) ≤ 3600 by omega)
  unfold inF; split <;> omega
theorem mul_b {x t : Int} (h0 : 0 ≤ x) (h1 : x ≤ 10000000) (t0 : 0 ≤ t) (t1 : t ≤ 86400) : 0 ≤ x * t ∧ x * t ≤ 864000000000 := by
  refine ⟨Int.mul_nonneg h0 t0, ?_⟩
  have : x * t ≤ 10000000 * 86400 := Int.mul_le_mul h1 t1 t0 (by omega)
  omega
set_option maxHeartbeats 16000000 in
theorem Fill_c (A0 : Option Addr) (c0 : Nat) (l : List SPond) (t : Int) (w : World) (R : List SPond) (n e : Int) (h : fillS l t = (R, n, e)) (hok : PB l) (hr0 : Kd.C kPond w A0 l.length l) :
    Calls Try.prog 20 #[.slice A0 l.length c0, .int .i64 t] w fun en w' => ∃ v, en = .returned (.tuple #[v, .int .i64 n, .int .i64 e]) ∧ RP w' w.heap.size v R ∧ Up w w' := by
  have hu := Try.underlying38
  have HR := Aside0.mk hr0
  have HK := Aside0.mk hok
  have HL8 := Aside0.mk hok.1
  have HS := Aside0.mk h
  have HB := Up.refl w
  clear hr0 hok h
  go_enter Try.func20, Try.ntmps20
  by_cases t1 : t < 0
  · have hs := (if_pos (Or.inl t1)).symm.trans HS.out
    simp only [Prod.mk.injEq] at hs
    obtain ⟨rfl, rfl, rfl⟩ := hs
    replace t1 := decide_eq_true t1
    go_wp2
    exact bodyPost_ret (v := .tuple #[.slice none 0 0, .int .i64 0, .int .i64 2]) (by simp [results, Try.results20, go_sem]) rfl ⟨_, rfl, Kd.R_nil _ _ _ _ _, HB⟩
  by_cases t2 : 86400 < t
  · have hs := (if_pos (Or.inr t2)).symm.trans HS.out
    simp only [Prod.mk.injEq] at hs
    obtain ⟨rfl, rfl, rfl⟩ := hs
    replace t1 := decide_eq_false t1
    replace t2 := decide_eq_true t2
    go_wp2
    exact bodyPost_ret (v := .tuple #[.slice none 0 0, .int .i64 0, .int .i64 2]) (by simp [results, Try.results20, go_sem]) rfl ⟨_, rfl, Kd.R_nil _ _ _ _ _, HB⟩
  have hs := (if_neg (show ¬ (t < 0 ∨ 86400 < t) by omega)).symm.trans HS.out
  simp only [Prod.mk.injEq] at hs
  obtain ⟨hq, hn, rfl⟩ := hs
  have HQ := Aside0.mk hq
  have HN := Aside0.mk hn
  have HT := Aside0.mk (show 0 ≤ t ∧ t ≤ 86400 by omega)
  clear hq hn
  replace t1 := decide_eq_false t1; replace t2 := decide_eq_false t2
  go_wp2_with fail
  (with_reducible refine (ClonePond_c A0 c0 l _ (by have := HL8.out; omega) (C_up HR.out HB)).mono ?_)
  rintro en w2 ⟨v, rfl, hR, hb⟩
  have HO := Aside0.mk hR
  have HU2 := Aside0.mk (Up.step HB hb)
  have HZ0 := Aside0.mk (Up.step HB hb).size
  clear hR hb HB
  go_wp2
  go_loopg [8, 9, 10, 11, 22] (l.length) (fun gk v8 _ _ _ v22 w' => ∃ (i s : Int) (ys : List SPond), v8 = .int .i64 s ∧ v22 = .int .i64 i ∧ 0 ≤ i ∧ i ≤ l.length ∧ l.length - i.toNat ≤ gk ∧ Aside0 (sumTo (fun i => inF (rd_Pond l i) t) i.toNat = s) ∧ Aside0 (ys.length = l.length ∧ (∀ j : Int, 0 ≤ j → j < i → rd_Pond ys j = fl l t j) ∧ (∀ j : Int, i ≤ j → j < l.length → rd_Pond ys j = rd_Pond l j)) ∧ Aside0 (RP w' w.heap.size v ys) ∧ Aside0 (Up w w'))
  case atStart => exact ⟨0, 0, l, rfl, rfl, by omega, by omega, by omega, ⟨rfl⟩, ⟨rfl, fun j a b => by omega, fun j a b => rfl⟩, HO, HU2⟩
  case round =>
    clear HO HU2
    obtain ⟨i, s, ys, rfl, rfl, hi, hil, hg, HSU, HY, HO, HB⟩ := hrel
    have HI := Aside0.mk hi
    have HIL := Aside0.mk hil
    have HG := Aside0.mk hg
    clear hil hg
    by_cases hlt : i < l.length
    · have HL := Aside0.mk hlt
      obtain ⟨ad, rfl⟩ : ∃ ad, A0 = some ad := by obtain ⟨ad, c, e, _⟩ := Kd.C_get HR.out zPond i hi hlt; exact ⟨ad, e⟩
      obtain ⟨hx0, hx1, hx2, hx3, hx4⟩ := rx_Pond HR.out
      have hx0 := hx0 _ i HB.out hi hlt
      have hx1 := hx1 _ i HB.out hi hlt
      have hx2 := hx2 _ i HB.out hi hlt
      have hx3 := hx3 _ i HB.out hi hlt
      have hx4 := hx4 _ i HB.out hi hlt
      obtain ⟨gC, cC, rfl, hgC, -⟩ := RP_form HO.out (by have := HY.out.1; have := HL.out; omega)
      have hiy : i < ys.length := by have := HY.out.1; omega
      have HIY := Aside0.mk hiy
      have hye := HY.out.2.2 i (Int.le_refl _) hlt
      have hpo := HK.out.2 i hi hlt
      have hin := inF_b hpo HT.out.1
      unfold ponOk at hpo
      have hsb := sumTo_rg (f := fun i => inF (rd_Pond l i) t) (n := l.length) (c := 1000000000) (i := i) (by omega) (fun k a b => by have h1 := HK.out.2 k a b; have h2 := inF_b h1 HT.out.1; unfold ponOk at h1; (try dsimp only); omega) hi (by omega)
      rw [HSU.out] at hsb
      have hml := mul_b hpo.2.2.2.2.2.1 hpo.2.2.2.2.2.2 HT.out.1 HT.out.2
      have hfl : fl l t i = ⟨(rd_Pond l i).f0, (rd_Pond l i).f1 + inF (rd_Pond l i) t, (rd_Pond l i).f2, (rd_Pond l i).f3, (rd_Pond l i).f4⟩ := rfl
      have HSS := Aside0.mk (show sumTo (fun i => inF (rd_Pond l i) t) (i + 1).toNat = s + inF (rd_Pond l i) t by rw [sumTo_step hi, HSU.out])
      obtain ⟨m, hm⟩ : ∃ m, (rd_Pond l i).f4 * t = m := ⟨_, rfl⟩
      obtain ⟨d, hd⟩ : ∃ d, m / 3600 = d := ⟨_, rfl⟩
      obtain ⟨q, hqq⟩ : ∃ q, (rd_Pond l i).f3 - (rd_Pond l i).f1 = q := ⟨_, rfl⟩
      obtain ⟨z, hz⟩ : ∃ z, inF (rd_Pond l i) t = z := ⟨_, rfl⟩
      have hzz : (if q < d then q else d) = z := by rw [← hz, ← hqq, ← hd, ← hm]; rfl
      rw [hm] at hml
      rw [hz] at hfl hin HSS
      have hmk : wrap64 ((rd_Pond l i).f4 * t) = m := by rw [hm]; unfold wrap64; omega
      have hdk : wrap64 (m.tdiv 3600) = d := by rw [Int.tdiv_eq_ediv_of_nonneg hml.1, hd]; unfold wrap64; omega
      have hqk : wrap64 ((rd_Pond l i).f3 - (rd_Pond l i).f1) = q := by rw [hqq]; unfold wrap64; omega
      obtain ⟨y, hy⟩ : ∃ y, (rd_Pond l i).f1 + z = y := ⟨_, rfl⟩
      obtain ⟨s2, hs2⟩ : ∃ y, s + z = y := ⟨_, rfl⟩
      have hyk : wrap64 ((rd_Pond l i).f1 + z) = y := by rw [hy]; unfold wrap64; omega
      have hsk : wrap64 (s + z) = s2 := by have := HL8.out; rw [hs2]; unfold wrap64; omega
      rw [hy] at hfl
      rw [hs2] at HSS
      have HFL := Aside0.mk hfl
      have HYE := Aside0.mk hye
      have HGC := Aside0.mk hgC
      have r1 : ∀ o, (wr.alloc o).cell? ⟨gC, i.toNat * 5 + 1, none⟩ = some (.int .i64 (rd_Pond l i).f1) := fun o => by rw [← HYE.out]; exact (rowPond (Kd.R_alloc HO.out o) HI.out HIY.out).2.1
      have r2 : ∀ o, (wr.alloc o).frozen? ⟨gC, i.toNat * 5 + 1, none⟩ = false := fun o => (rowPond (Kd.R_alloc HO.out o) HI.out HIY.out).2.2.2.2.2 1
      have hlt2 := decide_eq_true hlt
      clear hye hpo hin hsb hml hfl hm hd hqq hz hy hs2 hgC
      replace hi := eq_true hi; replace hlt := eq_true hlt; replace hiy := eq_true hiy
      go_wp2
      have hgc := HGC.out
      go_roundg (gk - 1)
      case measure => have := HL.out; have := HI.out; have := HG.out; omega
      case rel => exact ⟨i + 1, s2, ys.set i.toNat ⟨(rd_Pond ys i).f0, y, (rd_Pond ys i).f2, (rd_Pond ys i).f3, (rd_Pond ys i).f4⟩, (by first | rfl | (congr 1; done)), (by first | rfl | (simp; done) | (have := HL.out; have := HI.out; have := HL8.out; congr 1; unfold wrap64; omega)), by have := HI.out; omega, by have := HL.out; omega, by have := HL.out; have := HI.out; have := HG.out; omega, HSS, ⟨by rw [List.length_set]; exact HY.out.1, fun j a b => by
          rw [rdP_set HI.out HIY.out a]
          by_cases e : j = i
          · rw [if_pos e, e, HFL.out, HYE.out]
          · rw [if_neg e]; exact HY.out.2.1 j a (by omega), fun j a b => by
          rw [rdP_set HI.out HIY.out (by have := HI.out; omega), if_neg (by omega)]; exact HY.out.2.2 j (by omega) b⟩, ⟨setPond1 (Kd.R_alloc HO.out _) HI.out HIY.out _⟩, ⟨(by have HU_ := HB.out; repeat (with_reducible first | exact HU_ | refine Up.set ?_ (by omega) | apply Up.alloc | apply Up.drewN | apply Up.drew))⟩⟩
    · have HE := Aside0.mk (show ys = R by
        rw [← HQ.out]
        exact extP (HY.out.1.trans (genL_len _ _).symm) fun j a b => by rw [rdP_gen a (by have := HY.out.1; omega)]; exact HY.out.2.1 j a (by have := HIL.out; have := HY.out.1; omega))
      have HE2 := Aside0.mk (show s = n by rw [← HSU.out, ← HN.out, inS, show i.toNat = l.length by have := HIL.out; omega])
      replace hlt := decide_eq_false hlt
      go_wp2
      exact bodyPost_ret (v := .tuple #[v, .int .i64 s, .int .i64 0]) (by simp [results, Try.results20, go_sem]) rfl ⟨_, by rw [HE2.out], by rw [← HE.out]; exact HO.out, HB.out⟩

end Go.Proofs.Ytecpojiinappcaa.H
