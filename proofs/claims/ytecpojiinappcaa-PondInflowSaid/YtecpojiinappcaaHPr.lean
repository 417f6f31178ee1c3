import Derived.Test.YtecpojiinappcaaHK
import Derived.Test.YtecpojiinappcaaHPp
import Derived.Test.YtecpojiinappcaaHIxPond
namespace Go.Proofs.Ytecpojiinappcaa.H
open Go.RowKit Go.Proofs.YtecpojiinappcaaW.PrintWords Go.Proofs.YtecpojiinappcaaW.PrintLast Go.Proofs.YtecpojiinappcaaW.PrintMore
set_option linter.unusedVariables false
set_option linter.unusedSimpArgs false
/-! pond.Right, skiarearef39.Right -/
def ponB (p : SPond) : Bool := decide (p.f0 < 1) || decide (9999 < p.f0) || decide (p.f2 < 0) || decide (p.f1 < p.f2) || decide (p.f3 < p.f1) || decide (1000000000 < p.f3) || decide (p.f4 < 0) || decide (10000000 < p.f4)
def ponX (l : List SPond) (id : Int) : Int := idxF (fun j => (rd_Pond l j).f0 == id) (l.length - (0 : Int).toNat) 0
def ponE (l : List SPond) (i : Int) : Int := if ponB (rd_Pond l i) = true then 2 else if 0 ≤ ponX (l.take i.toNat) (rd_Pond l i).f0 then 7 else 0
def ponR (l : List SPond) : Int := if 8 < l.length then 4 else errF (ponE l) (l.length - (0 : Int).toNat) 0
theorem rdP_take {l : List SPond} {m : Nat} {i : Int} (h0 : 0 ≤ i) (h : i < m) : rd_Pond (l.take m) i = rd_Pond l i := by
  unfold rd_Pond; rw [List.getD_eq_getElem?_getD, List.getD_eq_getElem?_getD, List.getElem?_take_of_lt (by omega)]
set_option maxHeartbeats 4000000 in
theorem ponLit_c (B : Nat) (id a0 a1 a2 a3 a4 : Int) (w : World) (hb : B < w.heap.size) (hc : w.cell? ⟨B, 0, none⟩ = some (.int .i64 id)) :
    Calls Try.prog 25 #[.agg #[.int .i64 a0, .int .i64 a1, .int .i64 a2, .int .i64 a3, .int .i64 a4], .pointer (some ⟨B, 0, none⟩)] w fun e w' => e = .returned (.bool (a0 == id)) ∧ Up w w' := by
  have hu := Try.underlying38
  have HB := Up.refl w
  go_enter Try.func25, Try.ntmps25
  go_wp2
  go_ret
  exact ⟨rfl, (by repeat (with_reducible first | exact HB | apply Up.alloc | apply Up.drewN | apply Up.drew))⟩
theorem ponAhead_c (n B : Nat) (id : Int) (A0 : Option Addr) (c0 : Nat) (l : List SPond) (w : World) (r : Bool) (hn : l.length = n) (h : decide (0 ≤ ponX l id) = r) (hr0 : Kd.C kPond w A0 l.length l) (hb : B < w.heap.size) (hc : w.cell? ⟨B, 0, none⟩ = some (.int .i64 id)) :
    Calls Try.prog 24 #[.slice A0 n c0, .func (.func 25) #[] #[.pointer (some ⟨B, 0, none⟩)]] w fun e w' => e = .returned (.bool r) ∧ Up w w' := by
  subst hn
  exact ContainsFunc_Pond_c 25 B (fun j => (rd_Pond l j).f0 == id) r A0 c0 l w h hr0 (fun args w => enters_ Try.func25 (by kernel_rfl) rfl args w) (fun W i hu h0 h1 => ponLit_c B id _ _ _ _ _ W (by have := hu.size; omega) (((Up.cells hu).1 B 0 hb).trans hc))
set_option maxHeartbeats 8000000 in
set_option maxRecDepth 100000 in
theorem PonRight_c (A0 : Option Addr) (c0 : Nat) (l : List SPond) (w : World) (r : Int) (h : ponR l = r) (hr0 : Kd.C kPond w A0 l.length l) (hc0 : l.length ≤ c0) :
    Calls Try.prog 10 #[.slice A0 l.length c0] w fun e w' => e = .returned (.int .i64 r) ∧ Up w w' := by
  have hu := Try.underlying38
  have HB := Up.refl w
  by_cases g1 : 8 < l.length
  · obtain rfl : 4 = r := by simpa [ponR, g1] using h
    have g2 := decide_eq_true (show (8 : Int) < (l.length : Int) by omega)
    clear h
    go_enter Try.func10, Try.ntmps10
    go_wp2
    go_ret
    exact ⟨rfl, HB⟩
  have HS := Aside0.mk (show errF (ponE l) (l.length - (0 : Int).toNat) 0 = r by rw [← h]; simp [ponR, g1])
  have g2 := decide_eq_false (show ¬ (8 : Int) < (l.length : Int) by omega)
  have HN := Aside0.mk (show l.length ≤ 8 ∧ l.length ≤ c0 by omega)
  have HR := Aside0.mk hr0
  clear h hr0 g1 hc0
  go_enter Try.func10, Try.ntmps10
  go_wp2
  go_loopg [10] (l.length) (fun gk v10 w' => ∃ i : Int, v10 = .int .i64 i ∧ 0 ≤ i ∧ l.length - i.toNat ≤ gk ∧ Aside0 (errF (ponE l) (l.length - i.toNat) i = r) ∧ Up w w')
  case atStart => exact ⟨0, rfl, by omega, by omega, HS, HB⟩
  case round =>
    clear HS HB
    obtain ⟨i, rfl, hi, hg, HS, HB⟩ := hrel
    have HI := Aside0.mk hi
    have hs0 := HB.size
    by_cases hlt : i < l.length
    · have HS := Aside0.mk ((errF_step hi hlt).symm.trans HS.out)
      have HL := Aside0.mk hlt
      obtain ⟨ad, rfl⟩ : ∃ ad, A0 = some ad := by obtain ⟨ad, c, e, _⟩ := Kd.C_get HR.out zPond i hi hlt; exact ⟨ad, e⟩
      obtain ⟨hx0, hx1, hx2, hx3, hx4⟩ := rx_Pond HR.out
      have hlt2 := decide_eq_true hlt
      have hle : i ≤ (l.length : Int) := by omega
      have hlc : i ≤ (c0 : Int) := by have := HN.out; omega
      replace hi := eq_true hi; replace hlt := eq_true hlt; replace hle := eq_true hle; replace hlc := eq_true hlc
      by_cases t1 : (rd_Pond l i).f0 < 1
      rotate_left
      by_cases t2 : 9999 < (rd_Pond l i).f0
      rotate_left
      by_cases t3 : (rd_Pond l i).f2 < 0
      rotate_left
      by_cases t4 : (rd_Pond l i).f1 < (rd_Pond l i).f2
      rotate_left
      by_cases t5 : (rd_Pond l i).f3 < (rd_Pond l i).f1
      rotate_left
      by_cases t6 : 1000000000 < (rd_Pond l i).f3
      rotate_left
      by_cases t7 : (rd_Pond l i).f4 < 0
      rotate_left
      by_cases t8 : 10000000 < (rd_Pond l i).f4
      rotate_left
      · have HT := Aside0.mk (show ponB (rd_Pond l i) = false by simp [ponB, *])
        have hn : (l.take i.toNat).length = i.toNat := by have := HL.out; have := HI.out; simp; omega
        have HNN := Aside0.mk hn
        have HC := Aside0.mk (Kd.C_take HR.out (show i.toNat ≤ l.length by have := HL.out; have := HI.out; omega))
        clear hn
        replace t1 := decide_eq_false t1; replace t2 := decide_eq_false t2; replace t3 := decide_eq_false t3; replace t4 := decide_eq_false t4; replace t5 := decide_eq_false t5; replace t6 := decide_eq_false t6; replace t7 := decide_eq_false t7; replace t8 := decide_eq_false t8
        go_wp2_with fail
        cases hd : decide (0 ≤ ponX (l.take i.toNat) (rd_Pond l i).f0)
        · have HO := Aside0.mk (show ponE l i = 0 by have := of_decide_eq_false hd; simp [ponE, HT.out, this])
          have HS := Aside0.mk ((if_pos HO.out).symm.trans HS.out)
          have HD := Aside0.mk hd
          clear hd
          (with_reducible refine (ponAhead_c _ _ _ _ _ _ _ false HNN.out HD.out (C_up HC.out (by repeat (with_reducible first | exact HB | apply Up.alloc | apply Up.drewN | apply Up.drew))) (by simp) (by simp)).mono ?_)
          rintro e w1 ⟨rfl, hb⟩
          have HB2 : Up w w1 := Up.step (by repeat (with_reducible first | exact HB | apply Up.alloc | apply Up.drewN | apply Up.drew)) hb
          go_wp2
          go_roundg (gk - 1)
          case measure => have := HL.out; have := HI.out; omega
          case rel => exact ⟨i + 1, (by first | rfl | (simp; done) | (have := HL.out; have := HI.out; have := HN.out; congr 1; unfold wrap64; omega)), by have := HI.out; omega, by have := HL.out; have := HI.out; omega, HS, HB2⟩
        · have HO := Aside0.mk (show ponE l i = 7 by have := of_decide_eq_true hd; simp [ponE, HT.out, this])
          have HS := Aside0.mk (show 7 = r by have h := HS.out; rw [HO.out] at h; simpa using h)
          have HD := Aside0.mk hd
          clear hd
          (with_reducible refine (ponAhead_c _ _ _ _ _ _ _ true HNN.out HD.out (C_up HC.out (by repeat (with_reducible first | exact HB | apply Up.alloc | apply Up.drewN | apply Up.drew))) (by simp) (by simp)).mono ?_)
          rintro e w1 ⟨rfl, hb⟩
          have HB2 : Up w w1 := Up.step (by repeat (with_reducible first | exact HB | apply Up.alloc | apply Up.drewN | apply Up.drew)) hb
          go_wp2
          go_ret
          exact ⟨ret_i HS.out, HB2⟩
      all_goals
        have HO := Aside0.mk (show ponE l i = 2 by simp [ponE, ponB, *])
        have HS := Aside0.mk (show 2 = r by have h := HS.out; rw [HO.out] at h; simpa using h)
        (first | replace t1 := decide_eq_false t1 | replace t1 := decide_eq_true t1 | skip); (first | replace t2 := decide_eq_false t2 | replace t2 := decide_eq_true t2 | skip); (first | replace t3 := decide_eq_false t3 | replace t3 := decide_eq_true t3 | skip); (first | replace t4 := decide_eq_false t4 | replace t4 := decide_eq_true t4 | skip); (first | replace t5 := decide_eq_false t5 | replace t5 := decide_eq_true t5 | skip); (first | replace t6 := decide_eq_false t6 | replace t6 := decide_eq_true t6 | skip); (first | replace t7 := decide_eq_false t7 | replace t7 := decide_eq_true t7 | skip); (first | replace t8 := decide_eq_false t8 | replace t8 := decide_eq_true t8 | skip)
        go_wp2; repeat (go_quiet (fail); try go_wp2)
        go_ret
        exact ⟨ret_i HS.out, (by repeat (with_reducible first | exact HB | apply Up.alloc | apply Up.drewN | apply Up.drew))⟩
    · have HS := Aside0.mk ((errF_end (by omega : (l.length : Int) ≤ i)).symm.trans HS.out)
      replace hlt := decide_eq_false hlt
      go_wp2
      go_ret
      exact ⟨ret_i HS.out, HB⟩

end Go.Proofs.Ytecpojiinappcaa.H
