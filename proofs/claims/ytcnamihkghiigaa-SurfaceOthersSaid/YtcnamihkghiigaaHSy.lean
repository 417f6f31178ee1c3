import Derived.Test.YtcnamihkghiigaaHK
import Derived.Test.YtcnamihkghiigaaHSq
namespace Go.Proofs.Ytcnamihkghiigaa.H
open Go.RowKit Go.Proofs.YtcnamihkghiigaaW.PrintWords Go.Proofs.YtcnamihkghiigaaW.PrintLast Go.Proofs.YtcnamihkghiigaaW.PrintMore
set_option linter.unusedVariables false
set_option linter.unusedSimpArgs false
/-! Quality of both, Same, SameInts -/
attribute [local go_sem high] eqA32
def qualV (s : SSurface) (t : Int) : Int := wrap64 (wrap64 (1000 - wrap64 (s.f2.tdiv 4)) - wrap64 (wrap64 ((wrap64 (t - s.f1)).tdiv 3600) * 10))
def qualS (s : SSurface) (t : Int) : Int := if s.f1 < 0 ∨ t < s.f1 then 0 else if qualV s t ≤ 0 then 0 else qualV s t
set_option maxHeartbeats 4000000 in
theorem Quality_c (a0 a1 a2 t : Int) (w : World) (r : Int) (h : qualS ⟨a0, a1, a2⟩ t = r) :
    Calls Try.prog 19 #[.agg #[.int .i64 a0, .int .i64 a1, .int .i64 a2], .int .i64 t] w fun e w' => e = .returned (.int .i64 r) ∧ Up w w' := by
  have hu := Try.underlying32
  have HB := Up.refl w
  have HS := Aside0.mk h
  clear h
  go_enter Try.func19, Try.ntmps19
  by_cases t1 : a1 < 0
  · have HS := Aside0.mk (show 0 = r by have h := HS.out; simpa [qualS, t1] using h)
    replace t1 := decide_eq_true t1
    go_wp2; repeat (go_quiet (fail); try go_wp2)
    go_ret
    exact ⟨ret_i HS.out, (by repeat (with_reducible first | exact HB | apply Up.alloc | apply Up.drewN | apply Up.drew))⟩
  by_cases t2 : t < a1
  · have HS := Aside0.mk (show 0 = r by have h := HS.out; simpa [qualS, t2] using h)
    replace t1 := decide_eq_false t1
    replace t2 := decide_eq_true t2
    go_wp2; repeat (go_quiet (fail); try go_wp2)
    go_ret
    exact ⟨ret_i HS.out, (by repeat (with_reducible first | exact HB | apply Up.alloc | apply Up.drewN | apply Up.drew))⟩
  have HS := Aside0.mk (show (if qualV ⟨a0, a1, a2⟩ t ≤ 0 then 0 else qualV ⟨a0, a1, a2⟩ t) = r by have h := HS.out; simpa [qualS, t1, t2] using h)
  replace t1 := decide_eq_false t1; replace t2 := decide_eq_false t2
  go_wp2; repeat (go_quiet (fail); try go_wp2)
  all_goals
    first | (have HS := Aside0.mk ((if_pos (show qualV ⟨a0, a1, a2⟩ t ≤ 0 from h)).symm.trans HS.out)) | (have HS := Aside0.mk ((if_neg (show ¬ qualV ⟨a0, a1, a2⟩ t ≤ 0 from Int.not_le.mpr h)).symm.trans HS.out))
    clear h
    go_ret
    exact ⟨ret_i HS.out, (by repeat (with_reducible first | exact HB | apply Up.alloc | apply Up.drewN | apply Up.drew))⟩
set_option maxHeartbeats 4000000 in
theorem QualityR_c (a0 a1 a2 t : Int) (w : World) (r : Int) (h : qualS ⟨a0, a1, a2⟩ t = r) :
    Calls Try.prog 20 #[.agg #[.int .i64 a0, .int .i64 a1, .int .i64 a2], .int .i64 t] w fun e w' => e = .returned (.int .i64 r) ∧ Up w w' := by
  have hu := Try.underlying32
  have HB := Up.refl w
  have HS := Aside0.mk h
  clear h
  go_enter Try.func20, Try.ntmps20
  by_cases t1 : a1 < 0
  · have HS := Aside0.mk (show 0 = r by have h := HS.out; simpa [qualS, t1] using h)
    replace t1 := decide_eq_true t1
    go_wp2; repeat (go_quiet (fail); try go_wp2)
    go_ret
    exact ⟨ret_i HS.out, (by repeat (with_reducible first | exact HB | apply Up.alloc | apply Up.drewN | apply Up.drew))⟩
  by_cases t2 : t < a1
  · have HS := Aside0.mk (show 0 = r by have h := HS.out; simpa [qualS, t2] using h)
    replace t1 := decide_eq_false t1
    replace t2 := decide_eq_true t2
    go_wp2; repeat (go_quiet (fail); try go_wp2)
    go_ret
    exact ⟨ret_i HS.out, (by repeat (with_reducible first | exact HB | apply Up.alloc | apply Up.drewN | apply Up.drew))⟩
  have HS := Aside0.mk (show (if qualV ⟨a0, a1, a2⟩ t ≤ 0 then 0 else qualV ⟨a0, a1, a2⟩ t) = r by have h := HS.out; simpa [qualS, t1, t2] using h)
  replace t1 := decide_eq_false t1; replace t2 := decide_eq_false t2
  go_wp2; repeat (go_quiet (fail); try go_wp2)
  all_goals
    first | (have HS := Aside0.mk ((if_pos (show qualV ⟨a0, a1, a2⟩ t ≤ 0 from h)).symm.trans HS.out)) | (have HS := Aside0.mk ((if_neg (show ¬ qualV ⟨a0, a1, a2⟩ t ≤ 0 from Int.not_le.mpr h)).symm.trans HS.out))
    clear h
    go_ret
    exact ⟨ret_i HS.out, (by repeat (with_reducible first | exact HB | apply Up.alloc | apply Up.drewN | apply Up.drew))⟩
def sameF (a b : List SSurface) (i : Int) : Bool := (rd_Surface a i).f0 == (rd_Surface b i).f0 && (rd_Surface a i).f1 == (rd_Surface b i).f1 && (rd_Surface a i).f2 == (rd_Surface b i).f2
def sameS (a b : List SSurface) : Bool := decide (a.length = b.length) && allF (sameF a b) (a.length - (0 : Int).toNat) 0
set_option maxHeartbeats 4000000 in
theorem Same_c (A0 : Option Addr) (c0 : Nat) (a : List SSurface) (B0 : Option Addr) (d0 : Nat) (b : List SSurface) (r : Bool) (w : World) (h : sameS a b = r) (hr0 : Kd.C kSurface w A0 a.length a) (hr1 : Kd.C kSurface w B0 b.length b) :
    Calls Try.prog 16 #[.slice A0 a.length c0, .slice B0 b.length d0] w fun e w' => e = .returned (.bool r) ∧ Up w w' := by
  have HB := Up.refl w
  by_cases hl : a.length = b.length
  rotate_left
  · obtain rfl : false = r := by simpa [sameS, hl] using h
    have hl1 := beq_eq_false_iff_ne.mpr hl
    have hl2 := bne_iff_ne.mpr hl
    have hl3 : ((a.length : Int) != (b.length : Int)) = true := bne_iff_ne.mpr (by omega)
    clear hl h
    go_enter Try.func16, Try.ntmps16
    go_wp2
    go_ret
    exact ⟨rfl, HB⟩
  have HS := Aside0.mk (show allF (sameF a b) (a.length - (0 : Int).toNat) 0 = r by simpa [sameS, hl] using h)
  have HM := Aside0.mk (Kd.C_max hr0)
  have HR0 := Aside0.mk hr0
  have HR1 := Aside0.mk hr1
  have HL := Aside0.mk hl
  have hl3 : ((a.length : Int) != (b.length : Int)) = false := bne_eq_false_iff_eq.mpr (by omega)
  have hl2 := bne_eq_false_iff_eq.mpr hl
  clear h hl hr0 hr1
  go_enter Try.func16, Try.ntmps16
  go_wp2
  go_loopg [5] (a.length) (fun gk v5 w' => ∃ i : Int, v5 = .int .i64 i ∧ 0 ≤ i ∧ a.length - i.toNat ≤ gk ∧ Aside0 (allF (sameF a b) (a.length - i.toNat) i = r) ∧ Up w w')
  case atStart => exact ⟨0, rfl, by omega, by omega, HS, HB⟩
  case round =>
    clear HS HB
    obtain ⟨i, rfl, hi, hg, HS, HB⟩ := hrel
    have HI := Aside0.mk hi
    by_cases hlt : i < a.length
    · have HT := Aside0.mk hlt
      have HS := Aside0.mk ((allF_step hi hlt).symm.trans HS.out)
      have hlb : i < b.length := by have := HL.out; omega
      obtain ⟨ad, rfl⟩ : ∃ ad, A0 = some ad := by obtain ⟨ad, c, e, _⟩ := Kd.C_get HR0.out zSurface i hi hlt; exact ⟨ad, e⟩
      obtain ⟨bd, rfl⟩ : ∃ ad, B0 = some ad := by obtain ⟨ad, c, e, _⟩ := Kd.C_get HR1.out zSurface i hi hlb; exact ⟨ad, e⟩
      obtain ⟨hx0, hx1, hx2⟩ := rx_Surface HR0.out
      obtain ⟨hy0, hy1, hy2⟩ := rx_Surface HR1.out
      have hlt2 := decide_eq_true hlt
      replace hi := eq_true hi; replace hlt := eq_true hlt; replace hlb := eq_true hlb
      cases t1 : ((rd_Surface a i).f0 == (rd_Surface b i).f0)
      · have HS := Aside0.mk (show false = r by have h := HS.out; simpa [sameF, t1] using h)
        go_wp2; repeat (go_quiet (fail); try go_wp2)
        go_ret
        exact ⟨ret_b HS.out, (by repeat (with_reducible first | exact HB | apply Up.alloc | apply Up.drewN | apply Up.drew))⟩
      cases t2 : ((rd_Surface a i).f1 == (rd_Surface b i).f1)
      · have HS := Aside0.mk (show false = r by have h := HS.out; simpa [sameF, t1, t2] using h)
        go_wp2; repeat (go_quiet (fail); try go_wp2)
        go_ret
        exact ⟨ret_b HS.out, (by repeat (with_reducible first | exact HB | apply Up.alloc | apply Up.drewN | apply Up.drew))⟩
      cases t3 : ((rd_Surface a i).f2 == (rd_Surface b i).f2)
      · have HS := Aside0.mk (show false = r by have h := HS.out; simpa [sameF, t1, t2, t3] using h)
        go_wp2; repeat (go_quiet (fail); try go_wp2)
        go_ret
        exact ⟨ret_b HS.out, (by repeat (with_reducible first | exact HB | apply Up.alloc | apply Up.drewN | apply Up.drew))⟩
      · have HS := Aside0.mk (show allF (sameF a b) (a.length - (i + 1).toNat) (i + 1) = r by have h := HS.out; rw [show sameF a b i = true by simp [sameF, t1, t2, t3], Bool.true_and] at h; exact h)
        go_wp2; repeat (go_quiet (fail); try go_wp2)
        go_roundg (gk - 1)
        case measure => have := HT.out; have := HI.out; omega
        case rel => exact ⟨i + 1, (by first | rfl | (simp; done) | (have := HT.out; have := HI.out; have := HM.out; congr 1; unfold wrap64; omega)), by have := HI.out; omega, by have := HT.out; have := HI.out; omega, HS, (by repeat (with_reducible first | exact HB | apply Up.alloc | apply Up.drewN | apply Up.drew))⟩
    · have HS := Aside0.mk ((allF_end (by omega : (a.length : Int) ≤ i)).symm.trans HS.out)
      replace hlt := decide_eq_false hlt
      go_wp2
      go_ret
      exact ⟨ret_b HS.out, HB⟩

end Go.Proofs.Ytcnamihkghiigaa.H
