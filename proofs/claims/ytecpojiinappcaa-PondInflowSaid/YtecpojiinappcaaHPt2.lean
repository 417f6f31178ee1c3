import Derived.Test.YtecpojiinappcaaHK
import Derived.Test.YtecpojiinappcaaHPt
namespace Go.Proofs.Ytecpojiinappcaa.H
open Go.RowKit Go.Proofs.YtecpojiinappcaaW.PrintWords Go.Proofs.YtecpojiinappcaaW.PrintLast Go.Proofs.YtecpojiinappcaaW.PrintMore
set_option linter.unusedVariables false
set_option linter.unusedSimpArgs false
/-! the reference's Spare; Total of both -/
theorem tot_b {l : List SPond} (h : PB l) {i : Int} (h0 : 0 ≤ i) (h1 : i < l.length) : 0 ≤ (rd_Pond l i).f1 ∧ (rd_Pond l i).f1 ≤ 1000000000 := by
  have := h.2 i h0 h1; unfold ponOk at this; omega
set_option maxHeartbeats 8000000 in
theorem SpareR_c (A0 : Option Addr) (c0 : Nat) (l : List SPond) (w : World) (r : Int) (h : spareS l = r) (hok : PB l) (hr0 : Kd.C kPond w A0 l.length l) :
    Calls Try.prog 14 #[.slice A0 l.length c0] w fun e w' => e = .returned (.int .i64 r) ∧ Up w w' := by
  have hu := Try.underlying38
  have HB := Up.refl w
  have HS := Aside0.mk ((spareS_eq l).symm.trans h)
  have HK := Aside0.mk hok
  have HR := Aside0.mk hr0
  clear h hr0 hok
  go_enter Try.func14, Try.ntmps14
  go_wp2
  go_loopg [3, 4] (l.length) (fun gk v3 v4 w' => ∃ (i s : Int), v3 = .int .i64 s ∧ v4 = .int .i64 i ∧ 0 ≤ i ∧ i ≤ l.length ∧ l.length - i.toNat ≤ gk ∧ Aside0 (sumTo (sprI l) i.toNat = s) ∧ Up w w')
  case atStart => exact ⟨0, 0, rfl, rfl, by omega, by omega, by omega, ⟨rfl⟩, HB⟩
  case round =>
    clear HB
    obtain ⟨i, s, rfl, rfl, hi, hil, hg, HZ, HB⟩ := hrel
    have HI := Aside0.mk hi
    have HIL := Aside0.mk hil
    clear hil
    by_cases hlt : i < l.length
    · have HL := Aside0.mk hlt
      obtain ⟨ad, rfl⟩ : ∃ ad, A0 = some ad := by obtain ⟨ad, c, e, _⟩ := Kd.C_get HR.out zPond i hi hlt; exact ⟨ad, e⟩
      obtain ⟨hx0, hx1, hx2, hx3, hx4⟩ := rx_Pond HR.out
      have hb0 := sumTo_rg (f := sprI l) (n := l.length) (c := 1000000000) (by omega) (fun k a b => sprI_b HK.out a b) hi (by omega)
      have hb := sumTo_rg (f := sprI l) (n := l.length) (c := 1000000000) (i := i + 1) (by omega) (fun k a b => sprI_b HK.out a b) (by omega) (by omega)
      have hpo := HK.out.2 i hi hlt
      unfold ponOk at hpo
      have hn := HK.out.1
      have hsi : sumTo (sprI l) (i + 1).toNat = s + (rd_Pond l i).f1 - (rd_Pond l i).f2 := by rw [sumTo_step hi, HZ.out]; unfold sprI; omega
      obtain ⟨y, hy⟩ : ∃ y, s + (rd_Pond l i).f1 = y := ⟨_, rfl⟩
      obtain ⟨z, hz⟩ : ∃ z, y - (rd_Pond l i).f2 = z := ⟨_, rfl⟩
      have HZ2 := Aside0.mk (show sumTo (sprI l) (i + 1).toNat = z by rw [hsi, hy, hz])
      rw [HZ2.out] at hb
      rw [HZ.out] at hb0
      have hw1 : wrap64 (s + (rd_Pond l i).f1) = y := by unfold wrap64; omega
      have hw2 : IntKind.i64.wrap (s + (rd_Pond l i).f1) = y := (i64_w _).trans hw1
      have hw3 : wrap64 (y - (rd_Pond l i).f2) = z := by unfold wrap64; omega
      have hw4 : IntKind.i64.wrap (y - (rd_Pond l i).f2) = z := (i64_w _).trans hw3
      have hlt2 := decide_eq_true hlt
      clear hb0 hb hpo hn hsi hy hz
      replace hi := eq_true hi; replace hlt := eq_true hlt
      go_wp2; go_quiet (fail); go_wp2
      go_roundg (gk - 1)
      case measure => have := HL.out; have := HI.out; omega
      case rel => exact ⟨i + 1, z, (by first | rfl | (congr 1; done)), (by first | rfl | (simp; done) | (have := HL.out; have := HI.out; have := HK.out.1; congr 1; unfold wrap64; omega)), by have := HI.out; omega, by have := HL.out; omega, by have := HL.out; have := HI.out; omega, HZ2, (by repeat (with_reducible first | exact HB | apply Up.alloc | apply Up.drewN | apply Up.drew))⟩
    · have HS := Aside0.mk (show s = r by rw [← HS.out, ← HZ.out, show i.toNat = l.length by have := HIL.out; omega])
      replace hlt := decide_eq_false hlt
      go_wp2
      go_ret
      exact ⟨ret_i HS.out, HB⟩
set_option maxHeartbeats 8000000 in
theorem Total_c (A0 : Option Addr) (c0 : Nat) (l : List SPond) (w : World) (r : Int) (h : totalS l = r) (hok : PB l) (hr0 : Kd.C kPond w A0 l.length l) :
    Calls Try.prog 15 #[.slice A0 l.length c0] w fun e w' => e = .returned (.int .i64 r) ∧ Up w w' := by
  have hu := Try.underlying38
  have HB := Up.refl w
  have HS := Aside0.mk h
  have HK := Aside0.mk hok
  have HR := Aside0.mk hr0
  clear h hr0 hok
  go_enter Try.func15, Try.ntmps15
  go_wp2
  go_loopg [3, 5, 8] (l.length) (fun gk v3 _ v8 w' => ∃ (i s : Int), v3 = .int .i64 s ∧ v8 = .int .i64 i ∧ 0 ≤ i ∧ i ≤ l.length ∧ l.length - i.toNat ≤ gk ∧ Aside0 (sumTo (fun i => (rd_Pond l i).f1) i.toNat = s) ∧ Up w w')
  case atStart => exact ⟨0, 0, rfl, rfl, by omega, by omega, by omega, ⟨rfl⟩, HB⟩
  case round =>
    clear HB
    obtain ⟨i, s, rfl, rfl, hi, hil, hg, HZ, HB⟩ := hrel
    have HI := Aside0.mk hi
    have HIL := Aside0.mk hil
    clear hil
    by_cases hlt : i < l.length
    · have HL := Aside0.mk hlt
      obtain ⟨ad, rfl⟩ : ∃ ad, A0 = some ad := by obtain ⟨ad, c, e, _⟩ := Kd.C_get HR.out zPond i hi hlt; exact ⟨ad, e⟩
      obtain ⟨hx0, hx1, hx2, hx3, hx4⟩ := rx_Pond HR.out
      have hb := sumTo_rg (f := fun i => (rd_Pond l i).f1) (n := l.length) (c := 1000000000) (i := i + 1) (by omega) (fun k a b => tot_b HK.out a b) (by omega) (by omega)
      have hn := HK.out.1
      obtain ⟨z, hz⟩ : ∃ z, s + (rd_Pond l i).f1 = z := ⟨_, rfl⟩
      have HZ2 := Aside0.mk (show sumTo (fun i => (rd_Pond l i).f1) (i + 1).toNat = z by rw [sumTo_step hi, HZ.out, hz])
      rw [HZ2.out] at hb
      have hw1 : wrap64 (s + (rd_Pond l i).f1) = z := by unfold wrap64; omega
      have hw2 : IntKind.i64.wrap (s + (rd_Pond l i).f1) = z := (i64_w _).trans hw1
      have hlt2 := decide_eq_true hlt
      clear hb hn hz
      replace hi := eq_true hi; replace hlt := eq_true hlt
      go_wp2
      go_roundg (gk - 1)
      case measure => have := HL.out; have := HI.out; omega
      case rel => exact ⟨i + 1, z, (by first | rfl | (congr 1; done)), (by first | rfl | (simp; done) | (have := HL.out; have := HI.out; have := HK.out.1; congr 1; unfold wrap64; omega)), by have := HI.out; omega, by have := HL.out; omega, by have := HL.out; have := HI.out; omega, HZ2, (by repeat (with_reducible first | exact HB | apply Up.alloc | apply Up.drewN | apply Up.drew))⟩
    · have HS := Aside0.mk (show s = r by rw [← HS.out, ← HZ.out, totalS, show i.toNat = l.length by have := HIL.out; omega])
      replace hlt := decide_eq_false hlt
      go_wp2
      go_ret
      exact ⟨ret_i HS.out, HB⟩
set_option maxHeartbeats 8000000 in
theorem TotalR_c (A0 : Option Addr) (c0 : Nat) (l : List SPond) (w : World) (r : Int) (h : totalS l = r) (hok : PB l) (hr0 : Kd.C kPond w A0 l.length l) :
    Calls Try.prog 16 #[.slice A0 l.length c0] w fun e w' => e = .returned (.int .i64 r) ∧ Up w w' := by
  have hu := Try.underlying38
  have HB := Up.refl w
  have HS := Aside0.mk h
  have HK := Aside0.mk hok
  have HR := Aside0.mk hr0
  clear h hr0 hok
  go_enter Try.func16, Try.ntmps16
  go_wp2
  go_loopg [3, 4] (l.length) (fun gk v3 v8 w' => ∃ (i s : Int), v3 = .int .i64 s ∧ v8 = .int .i64 i ∧ 0 ≤ i ∧ i ≤ l.length ∧ l.length - i.toNat ≤ gk ∧ Aside0 (sumTo (fun i => (rd_Pond l i).f1) i.toNat = s) ∧ Up w w')
  case atStart => exact ⟨0, 0, rfl, rfl, by omega, by omega, by omega, ⟨rfl⟩, HB⟩
  case round =>
    clear HB
    obtain ⟨i, s, rfl, rfl, hi, hil, hg, HZ, HB⟩ := hrel
    have HI := Aside0.mk hi
    have HIL := Aside0.mk hil
    clear hil
    by_cases hlt : i < l.length
    · have HL := Aside0.mk hlt
      obtain ⟨ad, rfl⟩ : ∃ ad, A0 = some ad := by obtain ⟨ad, c, e, _⟩ := Kd.C_get HR.out zPond i hi hlt; exact ⟨ad, e⟩
      obtain ⟨hx0, hx1, hx2, hx3, hx4⟩ := rx_Pond HR.out
      have hb := sumTo_rg (f := fun i => (rd_Pond l i).f1) (n := l.length) (c := 1000000000) (i := i + 1) (by omega) (fun k a b => tot_b HK.out a b) (by omega) (by omega)
      have hn := HK.out.1
      obtain ⟨z, hz⟩ : ∃ z, s + (rd_Pond l i).f1 = z := ⟨_, rfl⟩
      have HZ2 := Aside0.mk (show sumTo (fun i => (rd_Pond l i).f1) (i + 1).toNat = z by rw [sumTo_step hi, HZ.out, hz])
      rw [HZ2.out] at hb
      have hw1 : wrap64 (s + (rd_Pond l i).f1) = z := by unfold wrap64; omega
      have hw2 : IntKind.i64.wrap (s + (rd_Pond l i).f1) = z := (i64_w _).trans hw1
      have hlt2 := decide_eq_true hlt
      clear hb hn hz
      replace hi := eq_true hi; replace hlt := eq_true hlt
      go_wp2
      go_roundg (gk - 1)
      case measure => have := HL.out; have := HI.out; omega
      case rel => exact ⟨i + 1, z, (by first | rfl | (congr 1; done)), (by first | rfl | (simp; done) | (have := HL.out; have := HI.out; have := HK.out.1; congr 1; unfold wrap64; omega)), by have := HI.out; omega, by have := HL.out; omega, by have := HL.out; have := HI.out; omega, HZ2, (by repeat (with_reducible first | exact HB | apply Up.alloc | apply Up.drewN | apply Up.drew))⟩
    · have HS := Aside0.mk (show s = r by rw [← HS.out, ← HZ.out, totalS, show i.toNat = l.length by have := HIL.out; omega])
      replace hlt := decide_eq_false hlt
      go_wp2
      go_ret
      exact ⟨ret_i HS.out, HB⟩

end Go.Proofs.Ytecpojiinappcaa.H
