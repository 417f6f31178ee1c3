import Derived.Test.YtcnamihkghiigaaHK
namespace Go.Proofs.Ytcnamihkghiigaa.H
open Go.RowKit Go.Proofs.YtcnamihkghiigaaW.PrintWords Go.Proofs.YtcnamihkghiigaaW.PrintLast Go.Proofs.YtcnamihkghiigaaW.PrintMore
set_option linter.unusedVariables false
set_option linter.unusedSimpArgs false
/-! surface.Right, skiarearef48.Right -/
def surB (s : SSurface) : Bool := decide (s.f0 < 1) || decide (9999 < s.f0) || decide (s.f1 < -1) || decide (20000000 < s.f1) || decide (s.f2 < 0) || decide (1000000 < s.f2)
def surE (l : List SSurface) (i : Int) : Int := if surB (rd_Surface l i) then 2 else if 0 < i ∧ (rd_Surface l i).f0 ≤ (rd_Surface l (i - 1)).f0 then 11 else 0
def surR (l : List SSurface) : Int := if 64 < l.length then 4 else errF (surE l) (l.length - (0 : Int).toNat) 0
set_option maxHeartbeats 8000000 in
theorem SurRight_c (A0 : Option Addr) (c0 : Nat) (l : List SSurface) (w : World) (r : Int) (h : surR l = r) (hr0 : Kd.C kSurface w A0 l.length l) :
    Calls Try.prog 12 #[.slice A0 l.length c0] w fun e w' => e = .returned (.int .i64 r) ∧ Up w w' := by
  have hu := Try.underlying32
  have HB := Up.refl w
  by_cases g1 : 64 < l.length
  · obtain rfl : 4 = r := by simpa [surR, g1] using h
    have g2 := decide_eq_true (show (64 : Int) < (l.length : Int) by omega)
    clear h
    go_enter Try.func12, Try.ntmps12
    go_wp2
    go_ret
    exact ⟨rfl, HB⟩
  have HS := Aside0.mk (show errF (surE l) (l.length - (0 : Int).toNat) 0 = r by rw [← h]; simp [surR, g1])
  have g2 := decide_eq_false (show ¬ (64 : Int) < (l.length : Int) by omega)
  have HM := Aside0.mk (Kd.C_max hr0)
  have HR := Aside0.mk hr0
  clear h hr0 g1
  go_enter Try.func12, Try.ntmps12
  go_wp2
  go_loopg [10] (l.length) (fun gk v10 w' => ∃ i : Int, v10 = .int .i64 i ∧ 0 ≤ i ∧ l.length - i.toNat ≤ gk ∧ Aside0 (errF (surE l) (l.length - i.toNat) i = r) ∧ Up w w')
  case atStart => exact ⟨0, rfl, by omega, by omega, HS, HB⟩
  case round =>
    clear HS HB
    obtain ⟨i, rfl, hi, hg, HS, HB⟩ := hrel
    have HI := Aside0.mk hi
    by_cases hlt : i < l.length
    · have HS := Aside0.mk ((errF_step hi hlt).symm.trans HS.out)
      have HL := Aside0.mk hlt
      obtain ⟨ad, rfl⟩ : ∃ ad, A0 = some ad := by obtain ⟨ad, c, e, _⟩ := Kd.C_get HR.out zSurface i hi hlt; exact ⟨ad, e⟩
      obtain ⟨hx0, hx1, hx2⟩ := rx_Surface HR.out
      have hlt2 := decide_eq_true hlt
      replace hi := eq_true hi; replace hlt := eq_true hlt
      by_cases t1 : (rd_Surface l i).f0 < 1
      rotate_left
      by_cases t2 : 9999 < (rd_Surface l i).f0
      rotate_left
      by_cases t3 : (rd_Surface l i).f1 < -1
      rotate_left
      by_cases t4 : 20000000 < (rd_Surface l i).f1
      rotate_left
      by_cases t5 : (rd_Surface l i).f2 < 0
      rotate_left
      by_cases t6 : 1000000 < (rd_Surface l i).f2
      rotate_left
      by_cases t7 : 0 < i
      · obtain ⟨j, hj⟩ : ∃ j : Int, i - 1 = j := ⟨_, rfl⟩
        have hj1 : wrap64 (i - 1) = j := by have := HI.out; have := HL.out; have := HM.out; unfold wrap64; omega
        have hj2 : IntKind.i64.wrap (i - 1) = j := (i64_w _).trans hj1
        have p1 : 0 ≤ j := by omega
        have q1 : j < l.length := by have := HL.out; omega
        replace p1 := eq_true p1; replace q1 := eq_true q1
        by_cases t8 : (rd_Surface l i).f0 ≤ (rd_Surface l j).f0
        · have HO := Aside0.mk (show surE l i = 11 by simp [surE, surB, hj, *])
          have HS := Aside0.mk (show 11 = r by have h := HS.out; rw [HO.out] at h; simpa using h)
          clear hj
          replace t1 := decide_eq_false t1; replace t2 := decide_eq_false t2; replace t3 := decide_eq_false t3; replace t4 := decide_eq_false t4; replace t5 := decide_eq_false t5; replace t6 := decide_eq_false t6; replace t7 := decide_eq_true t7; replace t8 := decide_eq_true t8
          go_wp2; repeat (go_quiet (fail); try go_wp2)
          go_ret
          exact ⟨ret_i HS.out, (by repeat (with_reducible first | exact HB | apply Up.alloc | apply Up.drewN | apply Up.drew))⟩
        · have HO := Aside0.mk (show surE l i = 0 by simp [surE, surB, hj, *])
          have HS := Aside0.mk ((if_pos HO.out).symm.trans HS.out)
          clear hj
          replace t1 := decide_eq_false t1; replace t2 := decide_eq_false t2; replace t3 := decide_eq_false t3; replace t4 := decide_eq_false t4; replace t5 := decide_eq_false t5; replace t6 := decide_eq_false t6; replace t8 := decide_eq_false t8; replace t7 := decide_eq_true t7
          go_wp2; repeat (go_quiet (fail); try go_wp2)
          go_roundg (gk - 1)
          case measure => have := HL.out; have := HI.out; omega
          case rel => exact ⟨i + 1, (by first | rfl | (simp; done) | (have := HL.out; have := HI.out; have := HM.out; congr 1; unfold wrap64; omega)), by have := HI.out; omega, by have := HL.out; have := HI.out; omega, HS, (by repeat (with_reducible first | exact HB | apply Up.alloc | apply Up.drewN | apply Up.drew))⟩
      · have HO := Aside0.mk (show surE l i = 0 by simp [surE, surB, *])
        have HS := Aside0.mk ((if_pos HO.out).symm.trans HS.out)
        replace t1 := decide_eq_false t1; replace t2 := decide_eq_false t2; replace t3 := decide_eq_false t3; replace t4 := decide_eq_false t4; replace t5 := decide_eq_false t5; replace t6 := decide_eq_false t6; replace t7 := decide_eq_false t7
        go_wp2; repeat (go_quiet (fail); try go_wp2)
        go_roundg (gk - 1)
        case measure => have := HL.out; have := HI.out; omega
        case rel => exact ⟨i + 1, (by first | rfl | (simp; done) | (have := HL.out; have := HI.out; have := HM.out; congr 1; unfold wrap64; omega)), by have := HI.out; omega, by have := HL.out; have := HI.out; omega, HS, (by repeat (with_reducible first | exact HB | apply Up.alloc | apply Up.drewN | apply Up.drew))⟩
      all_goals
        have HO := Aside0.mk (show surE l i = 2 by simp [surE, surB, *])
        have HS := Aside0.mk (show 2 = r by have h := HS.out; rw [HO.out] at h; simpa using h)
        (first | replace t1 := decide_eq_false t1 | replace t1 := decide_eq_true t1 | skip); (first | replace t2 := decide_eq_false t2 | replace t2 := decide_eq_true t2 | skip); (first | replace t3 := decide_eq_false t3 | replace t3 := decide_eq_true t3 | skip); (first | replace t4 := decide_eq_false t4 | replace t4 := decide_eq_true t4 | skip); (first | replace t5 := decide_eq_false t5 | replace t5 := decide_eq_true t5 | skip); (first | replace t6 := decide_eq_false t6 | replace t6 := decide_eq_true t6 | skip)
        go_wp2; repeat (go_quiet (fail); try go_wp2)
        go_ret
        exact ⟨ret_i HS.out, (by repeat (with_reducible first | exact HB | apply Up.alloc | apply Up.drewN | apply Up.drew))⟩
    · have HS := Aside0.mk ((errF_end (by omega : (l.length : Int) ≤ i)).symm.trans HS.out)
      replace hlt := decide_eq_false hlt
      go_wp2
      go_ret
      exact ⟨ret_i HS.out, HB⟩
set_option maxHeartbeats 8000000 in
theorem SurRightR_c (A0 : Option Addr) (c0 : Nat) (l : List SSurface) (w : World) (r : Int) (h : surR l = r) (hr0 : Kd.C kSurface w A0 l.length l) :
    Calls Try.prog 13 #[.slice A0 l.length c0] w fun e w' => e = .returned (.int .i64 r) ∧ Up w w' := by
  have hu := Try.underlying32
  have HB := Up.refl w
  by_cases g1 : 64 < l.length
  · obtain rfl : 4 = r := by simpa [surR, g1] using h
    have g2 := decide_eq_true (show (64 : Int) < (l.length : Int) by omega)
    clear h
    go_enter Try.func13, Try.ntmps13
    go_wp2
    go_ret
    exact ⟨rfl, HB⟩
  have HS := Aside0.mk (show errF (surE l) (l.length - (0 : Int).toNat) 0 = r by rw [← h]; simp [surR, g1])
  have g2 := decide_eq_false (show ¬ (64 : Int) < (l.length : Int) by omega)
  have HM := Aside0.mk (Kd.C_max hr0)
  have HR := Aside0.mk hr0
  clear h hr0 g1
  go_enter Try.func13, Try.ntmps13
  go_wp2
  go_loopg [3] (l.length) (fun gk v3 w' => ∃ i : Int, v3 = .int .i64 i ∧ 0 ≤ i ∧ l.length - i.toNat ≤ gk ∧ Aside0 (errF (surE l) (l.length - i.toNat) i = r) ∧ Up w w')
  case atStart => exact ⟨0, rfl, by omega, by omega, HS, HB⟩
  case round =>
    clear HS HB
    obtain ⟨i, rfl, hi, hg, HS, HB⟩ := hrel
    have HI := Aside0.mk hi
    by_cases hlt : i < l.length
    · have HS := Aside0.mk ((errF_step hi hlt).symm.trans HS.out)
      have HL := Aside0.mk hlt
      obtain ⟨ad, rfl⟩ : ∃ ad, A0 = some ad := by obtain ⟨ad, c, e, _⟩ := Kd.C_get HR.out zSurface i hi hlt; exact ⟨ad, e⟩
      obtain ⟨hx0, hx1, hx2⟩ := rx_Surface HR.out
      have hlt2 := decide_eq_true hlt
      replace hi := eq_true hi; replace hlt := eq_true hlt
      by_cases t1 : (rd_Surface l i).f0 < 1
      rotate_left
      by_cases t2 : 9999 < (rd_Surface l i).f0
      rotate_left
      by_cases t3 : (rd_Surface l i).f1 < -1
      rotate_left
      by_cases t4 : 20000000 < (rd_Surface l i).f1
      rotate_left
      by_cases t5 : (rd_Surface l i).f2 < 0
      rotate_left
      by_cases t6 : 1000000 < (rd_Surface l i).f2
      rotate_left
      by_cases t7 : 0 < i
      · obtain ⟨j, hj⟩ : ∃ j : Int, i - 1 = j := ⟨_, rfl⟩
        have hj1 : wrap64 (i - 1) = j := by have := HI.out; have := HL.out; have := HM.out; unfold wrap64; omega
        have hj2 : IntKind.i64.wrap (i - 1) = j := (i64_w _).trans hj1
        have p1 : 0 ≤ j := by omega
        have q1 : j < l.length := by have := HL.out; omega
        replace p1 := eq_true p1; replace q1 := eq_true q1
        by_cases t8 : (rd_Surface l i).f0 ≤ (rd_Surface l j).f0
        · have HO := Aside0.mk (show surE l i = 11 by simp [surE, surB, hj, *])
          have HS := Aside0.mk (show 11 = r by have h := HS.out; rw [HO.out] at h; simpa using h)
          clear hj
          replace t1 := decide_eq_false t1; replace t2 := decide_eq_false t2; replace t3 := decide_eq_false t3; replace t4 := decide_eq_false t4; replace t5 := decide_eq_false t5; replace t6 := decide_eq_false t6; replace t7 := decide_eq_true t7; replace t8 := decide_eq_true t8
          go_wp2; repeat (go_quiet (fail); try go_wp2)
          go_ret
          exact ⟨ret_i HS.out, (by repeat (with_reducible first | exact HB | apply Up.alloc | apply Up.drewN | apply Up.drew))⟩
        · have HO := Aside0.mk (show surE l i = 0 by simp [surE, surB, hj, *])
          have HS := Aside0.mk ((if_pos HO.out).symm.trans HS.out)
          clear hj
          replace t1 := decide_eq_false t1; replace t2 := decide_eq_false t2; replace t3 := decide_eq_false t3; replace t4 := decide_eq_false t4; replace t5 := decide_eq_false t5; replace t6 := decide_eq_false t6; replace t8 := decide_eq_false t8; replace t7 := decide_eq_true t7
          go_wp2; repeat (go_quiet (fail); try go_wp2)
          go_roundg (gk - 1)
          case measure => have := HL.out; have := HI.out; omega
          case rel => exact ⟨i + 1, (by first | rfl | (simp; done) | (have := HL.out; have := HI.out; have := HM.out; congr 1; unfold wrap64; omega)), by have := HI.out; omega, by have := HL.out; have := HI.out; omega, HS, (by repeat (with_reducible first | exact HB | apply Up.alloc | apply Up.drewN | apply Up.drew))⟩
      · have HO := Aside0.mk (show surE l i = 0 by simp [surE, surB, *])
        have HS := Aside0.mk ((if_pos HO.out).symm.trans HS.out)
        replace t1 := decide_eq_false t1; replace t2 := decide_eq_false t2; replace t3 := decide_eq_false t3; replace t4 := decide_eq_false t4; replace t5 := decide_eq_false t5; replace t6 := decide_eq_false t6; replace t7 := decide_eq_false t7
        go_wp2; repeat (go_quiet (fail); try go_wp2)
        go_roundg (gk - 1)
        case measure => have := HL.out; have := HI.out; omega
        case rel => exact ⟨i + 1, (by first | rfl | (simp; done) | (have := HL.out; have := HI.out; have := HM.out; congr 1; unfold wrap64; omega)), by have := HI.out; omega, by have := HL.out; have := HI.out; omega, HS, (by repeat (with_reducible first | exact HB | apply Up.alloc | apply Up.drewN | apply Up.drew))⟩
      all_goals
        have HO := Aside0.mk (show surE l i = 2 by simp [surE, surB, *])
        have HS := Aside0.mk (show 2 = r by have h := HS.out; rw [HO.out] at h; simpa using h)
        (first | replace t1 := decide_eq_false t1 | replace t1 := decide_eq_true t1 | skip); (first | replace t2 := decide_eq_false t2 | replace t2 := decide_eq_true t2 | skip); (first | replace t3 := decide_eq_false t3 | replace t3 := decide_eq_true t3 | skip); (first | replace t4 := decide_eq_false t4 | replace t4 := decide_eq_true t4 | skip); (first | replace t5 := decide_eq_false t5 | replace t5 := decide_eq_true t5 | skip); (first | replace t6 := decide_eq_false t6 | replace t6 := decide_eq_true t6 | skip)
        go_wp2; repeat (go_quiet (fail); try go_wp2)
        go_ret
        exact ⟨ret_i HS.out, (by repeat (with_reducible first | exact HB | apply Up.alloc | apply Up.drewN | apply Up.drew))⟩
    · have HS := Aside0.mk ((errF_end (by omega : (l.length : Int) ≤ i)).symm.trans HS.out)
      replace hlt := decide_eq_false hlt
      go_wp2
      go_ret
      exact ⟨ret_i HS.out, HB⟩

end Go.Proofs.Ytcnamihkghiigaa.H
