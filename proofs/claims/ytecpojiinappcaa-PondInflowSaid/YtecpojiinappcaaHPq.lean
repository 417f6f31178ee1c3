import Derived.Test.YtecpojiinappcaaHK
import Derived.Test.YtecpojiinappcaaHPt
import Derived.Shelf.Bits.Mul64
namespace Go.Proofs.Ytecpojiinappcaa.H
open Go.RowKit Go.Proofs.YtecpojiinappcaaW.PrintWords Go.Proofs.YtecpojiinappcaaW.PrintLast Go.Proofs.YtecpojiinappcaaW.PrintMore
set_option linter.unusedVariables false
set_option linter.unusedSimpArgs false
/-! split.exact: Mul64 where the product is below 2^63, Div64 behind it; Quotient of the reference -/
set_option maxHeartbeats 4000000 in
theorem mul64_c (x y : Nat) (hx : x ≤ 1099511627776) (hy : y ≤ 1000000000) (hxy : x * y < 9223372036854775808) (w : World) :
    Calls Try.prog 45 #[.int .u64 x, .int .u64 y] w fun e w' => e = .returned (.tuple #[.int .u64 0, .int .u64 ((x * y : Nat) : Int)]) ∧ Up w w' := by
  obtain ⟨bd, bt, bw, hhi⟩ := Lib.mul64_hi x y (by omega) (by omega)
  have ba := Lib.half_mul_le (a := x / 4294967296) (b := y / 4294967296) (by omega) (by omega)
  have bb := Lib.half_mul_le (a := x / 4294967296) (b := y % 4294967296) (by omega) (by omega)
  have bc := Lib.half_mul_le (a := x % 4294967296) (b := y / 4294967296) (by omega) (by omega)
  have ba' : x / 4294967296 * (y / 4294967296) < 18446744073709551616 := by omega
  have bb' : x / 4294967296 * (y % 4294967296) < 18446744073709551616 := by omega
  have bc' : x % 4294967296 * (y / 4294967296) < 18446744073709551616 := by omega
  have bh1 : x / 4294967296 * (y / 4294967296) + (x / 4294967296 * (y % 4294967296) + x % 4294967296 * (y % 4294967296) / 4294967296) / 4294967296 < 18446744073709551616 := by omega
  have bh : x / 4294967296 * (y / 4294967296) + (x / 4294967296 * (y % 4294967296) + x % 4294967296 * (y % 4294967296) / 4294967296) / 4294967296 + ((x / 4294967296 * (y % 4294967296) + x % 4294967296 * (y % 4294967296) / 4294967296) % 4294967296 + x % 4294967296 * (y / 4294967296)) / 4294967296 < 18446744073709551616 := by omega
  have HB := Up.refl w
  go_enter Try.func45, Try.ntmps45
  go_wp2
  simp only [Mul64.maskN x (show x < 18446744073709551616 by omega), Mul64.maskN y (show y < 18446744073709551616 by omega), Mul64.divN, Mul64.mulN, Mul64.addN, Mul64.wrapN _ bd, Mul64.wrapN _ bb', Mul64.wrapN _ bt, Mul64.maskN _ bt, Mul64.wrapN _ bc', Mul64.wrapN _ bw, Mul64.wrapN _ ba', Mul64.wrapN _ bh1, Mul64.wrapN _ bh, Mul64.wrapM (x * y)]
  rw [hhi, show x * y / 18446744073709551616 = 0 by omega]
  go_ret2
  exact ⟨rfl, HB⟩
set_option maxHeartbeats 4000000 in
theorem div64_c (p y : Nat) (hp : p < 9223372036854775808) (hy0 : 0 < y) (hy : y < 9223372036854775808) (w : World) :
    Calls Try.prog 46 #[.int .u64 0, .int .u64 p, .int .u64 y] w fun e w' => e = .returned (.tuple #[.int .u64 ((p / y : Nat) : Int), .int .u64 ((p % y : Nat) : Int)]) ∧ Up w w' := by
  have HB := Up.refl w
  have t1 : ((y : Int) == 0) = false := beq_eq_false_iff_ne.mpr (by omega)
  have t2 : decide ((y : Int) ≤ 0) = false := decide_eq_false (by omega)
  go_enter Try.func46, Try.ntmps46
  have t3 : ((y : Int) = 0) = False := eq_false (by omega)
  have t4 : (y = 0) = False := eq_false (by omega)
  go_wp2; go_quiet (fail); go_wp2
  go_ret2
  exact ⟨ret_ii (by rw [← Int.natCast_ediv, IntKind.wrap_u64]; have := Nat.div_le_self p y; generalize p / y = q at this ⊢; omega) (by simp), (by repeat (with_reducible first | exact HB | apply Up.alloc | apply Up.drewN | apply Up.drew))⟩
set_option maxHeartbeats 4000000 in
theorem exact_c (A W S : Int) (hA0 : 0 ≤ A) (hA : A ≤ 1099511627776) (hW0 : 0 ≤ W) (hW : W ≤ 1000000000) (hS0 : 0 < S) (hS : S ≤ 1099511627776) (hAW : A * W < 9223372036854775808) (w : World) :
    Calls Try.prog 39 #[.int .i64 A, .int .i64 W, .int .i64 S] w fun e w' => e = .returned (.tuple #[.int .i64 (A * W / S), .int .i64 (A * W % S)]) ∧ Up w w' := by
  obtain ⟨x, rfl⟩ := Int.eq_ofNat_of_zero_le hA0
  obtain ⟨y, rfl⟩ := Int.eq_ofNat_of_zero_le hW0
  obtain ⟨s, rfl⟩ := Int.eq_ofNat_of_zero_le (show 0 ≤ S by omega)
  have hxy : x * y < 9223372036854775808 := by have h : ((x * y : Nat) : Int) < 9223372036854775808 := by push_cast; exact hAW
                                               omega
  have hdv := Nat.div_le_self (x * y) s
  have hmd := Nat.mod_lt (x * y) (show s > 0 by omega)
  obtain ⟨q, hq⟩ : ∃ q, x * y / s = q := ⟨_, rfl⟩
  obtain ⟨r, hr⟩ : ∃ r, x * y % s = r := ⟨_, rfl⟩
  have HQ := Aside0.mk (show (x : Int) * y / s = q by rw [← hq]; push_cast; rfl)
  have HR := Aside0.mk (show (x : Int) * y % s = r by rw [← hr]; push_cast; rfl)
  have C1 := mul64_c x y (by omega) (by omega) hxy
  have C2 := div64_c (x * y) s hxy (by omega) (by omega)
  rw [hq, hr] at C2
  obtain ⟨p, hp⟩ : ∃ p, x * y = p := ⟨_, rfl⟩
  rw [hp] at C1 C2
  have C1 := Aside0.mk C1
  have C2 := Aside0.mk C2
  rw [hq] at hdv
  rw [hr] at hmd
  have ha1 : IntKind.u64.wrap (x : Int) = x := by rw [IntKind.wrap_u64]; omega
  have ha2 : IntKind.u64.wrap (y : Int) = y := by rw [IntKind.wrap_u64]; omega
  have ha3 : IntKind.u64.wrap (s : Int) = s := by rw [IntKind.wrap_u64]; omega
  have hb1 : IntKind.i64.wrap (q : Int) = q := (i64_w _).trans (by unfold wrap64; omega)
  have hb2 : IntKind.i64.wrap (r : Int) = r := (i64_w _).trans (by unfold wrap64; omega)
  have hb3 : wrap64 (q : Int) = q := by unfold wrap64; omega
  have hb4 : wrap64 (r : Int) = r := by unfold wrap64; omega
  have HB := Up.refl w
  clear hq hr hp hdv hmd hxy hA0 hA hW0 hW hS0 hS hAW
  go_enter Try.func39, Try.ntmps39
  go_wp2_with fail
  (with_reducible refine (C1.out _).mono ?_)
  rintro e w1 ⟨rfl, hb⟩
  have HB1 := Aside0.mk (Up.step HB hb)
  go_wp2_with fail
  (with_reducible refine (C2.out _).mono ?_)
  rintro e w2 ⟨rfl, hb2⟩
  have HB2 := Aside0.mk (Up.step HB1.out hb2)
  clear hb hb2 HB
  go_wp2
  go_ret2
  exact ⟨ret_ii HQ.out.symm HR.out.symm, HB2.out⟩

end Go.Proofs.Ytecpojiinappcaa.H
