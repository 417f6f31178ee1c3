import Derived.Test.YtecpojiinappcaaHK
import Derived.Test.YtecpojiinappcaaHPq
namespace Go.Proofs.Ytecpojiinappcaa.H
open Go.RowKit Go.Proofs.YtecpojiinappcaaW.PrintWords Go.Proofs.YtecpojiinappcaaW.PrintLast Go.Proofs.YtecpojiinappcaaW.PrintMore
set_option linter.unusedVariables false
set_option linter.unusedSimpArgs false
/-! Quotient of the reference -/
theorem quo_step {a s m q r b : Int} (hs : 0 < s) (h : q * s + r = a * m) (hb : b = 0 ∨ b = 1) :
    (2 * q + b * (a / s) + (2 * r + b * (a % s)) / s) * s + (2 * r + b * (a % s)) % s = a * (2 * m + b) := by
  have e1 := Int.mul_ediv_add_emod (2 * r + b * (a % s)) s
  have e2 := Int.mul_ediv_add_emod a s
  generalize (2 * r + b * (a % s)) / s = x at e1 ⊢
  generalize (2 * r + b * (a % s)) % s = y at e1 ⊢
  generalize a / s = u at e1 e2 ⊢
  generalize a % s = v at e1 e2 ⊢
  have e3 : s * x = x * s := Int.mul_comm _ _
  have e4 : s * u = u * s := Int.mul_comm _ _
  rcases hb with rfl | rfl
  · simp only [Int.zero_mul, Int.add_zero] at e1 ⊢
    rw [Int.add_mul, Int.mul_assoc 2 q s, show a * (2 * m) = 2 * (a * m) by rw [← Int.mul_assoc, Int.mul_comm a 2, Int.mul_assoc], ← h]
    omega
  · simp only [Int.one_mul] at e1 ⊢
    rw [Int.add_mul, Int.add_mul, Int.mul_assoc 2 q s, Int.mul_add, show a * (2 * m) = 2 * (a * m) by rw [← Int.mul_assoc, Int.mul_comm a 2, Int.mul_assoc], ← h, Int.mul_one]
    omega
theorem quo_end {a s w q r : Int} (hs : 0 < s) (h : q * s + r = a * w) (h0 : 0 ≤ r) (h1 : r < s) : q = a * w / s ∧ r = a * w % s := by
  rw [← h]
  have e : (q * s + r) / s = q := by rw [Int.add_comm, Int.add_mul_ediv_right _ _ (by omega), Int.ediv_eq_zero_of_lt h0 h1]; omega
  refine ⟨e.symm, ?_⟩
  have := Int.mul_ediv_add_emod (q * s + r) s
  rw [e, Int.mul_comm] at this; omega
theorem quo_le {a s m q r : Int} (hs : 0 < s) (ha : 0 ≤ a) (h : q * s + r = a * m) (h0 : 0 ≤ r) (hm : m ≤ s) : q ≤ a := by
  have h2 : a * m ≤ a * s := Int.mul_le_mul_of_nonneg_left hm ha
  exact Int.le_of_mul_le_mul_right (by omega : q * s ≤ a * s) hs
theorem and1 (x : Int) (h0 : 0 ≤ x) (h1 : x < 1073741824) : bits .and .i64 x 1 = x % 2 := by
  have := bits_mask .i64 30 (by decide) (fun n a b => by rw [i64_w]; have : n < 1073741824 := b; unfold wrap64; omega) 1 (by decide) x h0 h1
  exact this
theorem pow_half (w : Int) (k : Nat) : w / 2 ^ k = 2 * (w / 2 ^ (k + 1)) + (w / 2 ^ k) % 2 := by
  rw [Int.pow_succ, ← Int.ediv_ediv_of_nonneg (show (0 : Int) ≤ 2 ^ k from Int.le_of_lt (Int.pow_pos (by decide)))]
  omega
theorem pow_le (w : Int) (h : 0 ≤ w) (k : Nat) : 0 ≤ w / 2 ^ k ∧ w / 2 ^ k ≤ w :=
  ⟨Int.ediv_nonneg h (Int.le_of_lt (Int.pow_pos (by decide))), Int.ediv_le_self _ h⟩
set_option maxHeartbeats 8000000 in
theorem Quotient_c (a w s : Int) (ha0 : 0 ≤ a) (ha : a ≤ 1099511627776) (hw0 : 0 ≤ w) (hw : w ≤ 1000000000) (hs0 : 0 < s) (hs : s ≤ 64000000000) (hws : w ≤ s) (W : World) :
    Calls Try.prog 30 #[.int .i64 a, .int .i64 w, .int .i64 s] W fun e w' => e = .returned (.tuple #[.int .i64 (a * w / s), .int .i64 (a * w % s)]) ∧ Up W w' := by
  have HB := Up.refl W
  have HA := Aside0.mk (show (0 ≤ a ∧ a ≤ 1099511627776) ∧ (0 ≤ w ∧ w ≤ 1000000000) ∧ (0 < s ∧ s ≤ 64000000000) ∧ w ≤ s by omega)
  have hz : (s == 0) = false := beq_eq_false_iff_ne.mpr (by omega)
  have hz2 : (s = 0) = False := eq_false (by omega)
  clear ha0 ha hw0 hw hs0 hs hws
  go_enter Try.func30, Try.ntmps30
  go_wp2
  go_loopg [8, 9, 10] (31) (fun gk v8 v9 v10 w' => ∃ (i q r : Int), v8 = .int .i64 q ∧ v9 = .int .i64 r ∧ v10 = .int .i64 i ∧ -1 ≤ i ∧ i ≤ 30 ∧ (i + 1).toNat ≤ gk ∧ Aside0 (0 ≤ r ∧ r < s ∧ 0 ≤ q ∧ q * s + r = a * (w / 2 ^ (i + 1).toNat)) ∧ Up W w')
  case atStart => exact ⟨30, 0, 0, rfl, rfl, rfl, by omega, by omega, by decide, ⟨by have := HA.out; omega, by have := HA.out; omega, by omega, by have := HA.out; rw [show w / 2 ^ (30 + 1 : Int).toNat = 0 from Int.ediv_eq_zero_of_lt (by omega) (by show w < 2147483648; omega)]; omega⟩, HB⟩
  case round =>
    clear HB
    obtain ⟨i, q, r, rfl, rfl, rfl, hi0, hi1, hg, HZ, HB⟩ := hrel
    have HI := Aside0.mk hi0
    have HI1 := Aside0.mk hi1
    by_cases hlt : 0 ≤ i
    · have HL := Aside0.mk hlt
      have hlt2 := decide_eq_true hlt
      clear hi0 hi1
      replace hlt := eq_true hlt
      obtain ⟨⟨a0, a1⟩, ⟨w0, w1⟩, ⟨s0, s1⟩, ws⟩ := HA.out
      obtain ⟨r0, r1, q0, qz⟩ := HZ.out
      have hi0 := HL.out
      have hi1 := HI1.out
      rw [show (i + 1).toNat = i.toNat + 1 by omega] at qz
      have hph := pow_half w i.toNat
      obtain ⟨m0, m1⟩ := pow_le w w0 i.toNat
      obtain ⟨n0, n1⟩ := pow_le w w0 (i.toNat + 1)
      have hmin : w / 2 ^ min i.toNat 64 = w / 2 ^ i.toNat := by rw [show min i.toNat 64 = i.toNat by omega]
      obtain ⟨m, hm⟩ : ∃ m, w / 2 ^ i.toNat = m := ⟨_, rfl⟩
      have HM := Aside0.mk hm
      rw [hm] at hph hmin m0 m1
      generalize w / 2 ^ (i.toNat + 1) = n at hph n0 n1 qz
      obtain ⟨b, hb⟩ : ∃ b, m % 2 = b := ⟨_, rfl⟩
      have hbb : bits .and .i64 m 1 = b := (and1 m m0 (by omega)).trans hb
      have hb2 : b = 0 ∨ b = 1 := by omega
      have hst := quo_step (q := q) (r := r) (b := b) s0 qz hb2
      rw [show 2 * n + b = m by omega] at hst
      have hqa := quo_le (q := q) s0 a0 qz r0 (by omega)
      have g1 : wrap64 (2 * q) = 2 * q := by unfold wrap64; omega
      have g2 : wrap64 (2 * r) = 2 * r := by unfold wrap64; omega
      have g3 : wrap64 (i - 1) = i - 1 := by unfold wrap64; omega
      have u0 := Int.ediv_nonneg a0 (show 0 ≤ s by omega)
      have u1 := Int.ediv_le_self s a0
      have v0 := Int.emod_nonneg a (show s ≠ 0 by omega)
      have v1 := Int.emod_lt_of_pos a s0
      have d0 : 0 ≤ (2 * r + b * (a % s)) := by rcases hb2 with e | e <;> rw [e] <;> omega
      have d1 := Int.ediv_nonneg d0 (show 0 ≤ s by omega)
      have d2 := Int.ediv_le_self s d0
      have x0 := Int.emod_nonneg (2 * r + b * (a % s)) (show s ≠ 0 by omega)
      have x1 := Int.emod_lt_of_pos (2 * r + b * (a % s)) s0
      have k1 : a.tdiv s = a / s := Int.tdiv_eq_ediv_of_nonneg a0
      have k2 : a.tmod s = a % s := Int.tmod_eq_emod_of_nonneg a0
      have k3 : (2 * r + b * (a % s)).tdiv s = (2 * r + b * (a % s)) / s := Int.tdiv_eq_ediv_of_nonneg d0
      have k4 : (2 * r + b * (a % s)).tmod s = (2 * r + b * (a % s)) % s := Int.tmod_eq_emod_of_nonneg d0
      have HD := Aside0.mk (show 0 ≤ (2 * r + b * (a % s)) % s ∧ (2 * r + b * (a % s)) % s < s ∧ 0 ≤ 2 * q + b * (a / s) + (2 * r + b * (a % s)) / s ∧ (2 * q + b * (a / s) + (2 * r + b * (a % s)) / s) * s + (2 * r + b * (a % s)) % s = a * m by
        refine ⟨x0, x1, ?_, hst⟩
        rcases hb2 with e | e <;> rw [e] <;> rw [e] at d1 <;> omega)
      rcases hb2 with e | e
      · subst e
        simp only [Int.zero_mul, Int.add_zero] at k3 k4 HD d2 d1 x1
        obtain ⟨q2, hq2⟩ : ∃ x, 2 * q = x := ⟨_, rfl⟩
        obtain ⟨r2, hr2⟩ : ∃ x, 2 * r = x := ⟨_, rfl⟩
        rw [hq2] at HD g1
        rw [hr2] at HD g2 k3 k4 d1 d2
        obtain ⟨d, hd⟩ : ∃ x, r2 / s = x := ⟨_, rfl⟩
        obtain ⟨y, hy⟩ : ∃ x, r2 % s = x := ⟨_, rfl⟩
        rw [hd] at HD k3 d1 d2
        rw [hy] at HD k4
        obtain ⟨z, hz⟩ : ∃ x, q2 + d = x := ⟨_, rfl⟩
        have g4 : wrap64 d = d := by unfold wrap64; omega
        have g5 : wrap64 (q2 + d) = z := by unfold wrap64; omega
        rw [hz] at HD
        have g1a : wrap64 (2 * q) = q2 := by rw [hq2]; exact g1
        have g2a : wrap64 (2 * r) = r2 := by rw [hr2]; exact g2
        clear g1 g2 HZ hi0 hi1 qz hph m0 m1 n0 n1 hm hb hst hqa u0 u1 v0 v1 d0 d1 d2 x0 x1 hq2 hr2 hd hy hz a0 a1 w0 w1 s0 s1 ws r0 r1 q0 k1 k2
        go_wp2
        go_roundg (gk - 1)
        case measure => have := HL.out; omega
        case rel => exact ⟨i - 1, z, y, by first | rfl | (congr 1; done), by first | rfl | (congr 1; done), by first | rfl | (congr 1; done), by have := HL.out; omega, by have := HI1.out; omega, by have := HL.out; omega, ⟨by rw [show (i - 1 + 1).toNat = i.toNat by omega, HM.out]; exact HD.out⟩, HB⟩
      · subst e
        simp only [Int.one_mul] at k3 k4 HD d2 d1 x1
        obtain ⟨q2, hq2⟩ : ∃ x, 2 * q = x := ⟨_, rfl⟩
        obtain ⟨r2, hr2⟩ : ∃ x, 2 * r = x := ⟨_, rfl⟩
        obtain ⟨u, hu⟩ : ∃ x, a / s = x := ⟨_, rfl⟩
        obtain ⟨v, hv⟩ : ∃ x, a % s = x := ⟨_, rfl⟩
        rw [hq2] at HD g1
        rw [hr2] at HD g2 k3 k4 d1 d2
        rw [hu] at HD k1 u0 u1
        rw [hv] at HD k2 k3 k4 d1 d2 v0 v1
        obtain ⟨r3, hr3⟩ : ∃ x, r2 + v = x := ⟨_, rfl⟩
        rw [hr3] at HD k3 k4 d1 d2
        obtain ⟨q3, hq3⟩ : ∃ x, q2 + u = x := ⟨_, rfl⟩
        rw [hq3] at HD
        obtain ⟨d, hd⟩ : ∃ x, r3 / s = x := ⟨_, rfl⟩
        obtain ⟨y, hy⟩ : ∃ x, r3 % s = x := ⟨_, rfl⟩
        rw [hd] at HD k3 d1 d2
        rw [hy] at HD k4
        obtain ⟨z, hz⟩ : ∃ x, q3 + d = x := ⟨_, rfl⟩
        have g4 : wrap64 d = d := by unfold wrap64; omega
        have g5 : wrap64 (q3 + d) = z := by unfold wrap64; omega
        have g6 : wrap64 u = u := by unfold wrap64; omega
        have g7 : wrap64 (q2 + u) = q3 := by unfold wrap64; omega
        have g8 : wrap64 (r2 + v) = r3 := by unfold wrap64; omega
        rw [hz] at HD
        have g1a : wrap64 (2 * q) = q2 := by rw [hq2]; exact g1
        have g2a : wrap64 (2 * r) = r2 := by rw [hr2]; exact g2
        clear g1 g2 HZ hi0 hi1 qz hph m0 m1 n0 n1 hm hb hst hqa u0 u1 v0 v1 d0 d1 d2 x0 x1 hq2 hr2 hd hy hz a0 a1 w0 w1 s0 s1 ws r0 r1 q0 hu hv hr3 hq3
        go_wp2
        go_roundg (gk - 1)
        case measure => have := HL.out; omega
        case rel => exact ⟨i - 1, z, y, by first | rfl | (congr 1; done), by first | rfl | (congr 1; done), by first | rfl | (congr 1; done), by have := HL.out; omega, by have := HI1.out; omega, by have := HL.out; omega, ⟨by rw [show (i - 1 + 1).toNat = i.toNat by omega, HM.out]; exact HD.out⟩, HB⟩
    · obtain ⟨r0, r1, q0, qz⟩ := HZ.out
      rw [show (i + 1).toNat = 0 by omega] at qz
      have HE := Aside0.mk (quo_end HA.out.2.2.1.1 (by simpa using qz) r0 r1)
      clear r0 r1 q0 qz HZ
      replace hlt := decide_eq_false hlt
      go_wp2
      go_ret2
      exact ⟨ret_ii HE.out.1 HE.out.2, HB⟩

end Go.Proofs.Ytecpojiinappcaa.H
