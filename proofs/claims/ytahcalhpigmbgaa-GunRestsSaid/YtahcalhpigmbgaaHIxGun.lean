import Derived.Test.YtahcalhpigmbgaaHK
namespace Go.Proofs.Ytahcalhpigmbgaa.H
open Go.RowKit Go.Proofs.YtahcalhpigmbgaaW.PrintWords Go.Proofs.YtahcalhpigmbgaaW.PrintLast Go.Proofs.YtahcalhpigmbgaaW.PrintMore
set_option linter.unusedVariables false
set_option linter.unusedSimpArgs false
/-! slices.IndexFunc, slices.ContainsFunc at []api.Gun, the closure has captured one variable -/
set_option maxHeartbeats 4000000 in
theorem IndexFunc_Gun_c (g B : Nat) (p : Int → Bool) (r : Int) (A0 : Option Addr) (c0 : Nat) (l : List SGun) (w : World) (h : idxF p (l.length - (0 : Int).toNat) 0 = r) (hr0 : Kd.C kGun w A0 l.length l)
    (eg : ∀ args w, (callFunc g args).run Try.prog w = .ok (.enter g args) w)
    (hp : ∀ (W : World) (i : Int), Up w W → 0 ≤ i → i < l.length → Calls Try.prog g #[.agg #[.int .i64 (rd_Gun l i).f0, .int .i64 (rd_Gun l i).f1, .int .i64 (rd_Gun l i).f2, .int .i64 (rd_Gun l i).f3, .int .i64 (rd_Gun l i).f4, .int .i64 (rd_Gun l i).f5, .int .i64 (rd_Gun l i).f6, .int .i64 (rd_Gun l i).f7], .pointer (some ⟨B, 0, none⟩)] W fun e w' => e = .returned (.bool (p i)) ∧ Up W w') :
    Calls Try.prog 54 #[.slice A0 l.length c0, .func (.func g) #[] #[.pointer (some ⟨B, 0, none⟩)]] w fun e w' => e = .returned (.int .i64 r) ∧ Up w w' := by
  have hu := Try.underlying31
  have HB := Up.refl w
  have HP := Aside0.mk hp
  have HS := Aside0.mk h
  have HN := Aside0.mk (Kd.C_max hr0)
  have HR := Aside0.mk hr0
  clear hp h hr0
  go_enter Try.func54, Try.ntmps54
  go_wp2
  go_loopg [5, 8] (l.length) (fun gk _ v8 w' => ∃ i : Int, v8 = .int .i64 i ∧ 0 ≤ i ∧ l.length - i.toNat ≤ gk ∧ Aside0 (idxF p (l.length - i.toNat) i = r) ∧ Up w w')
  case atStart => exact ⟨0, rfl, by omega, by omega, HS, HB⟩
  case round =>
    clear HS HB
    obtain ⟨i, rfl, hi, hg, HS, HB⟩ := hrel
    have HI := Aside0.mk hi
    by_cases hlt : i < l.length
    · have HL := Aside0.mk hlt
      have HS := Aside0.mk ((idxF_step hi hlt).symm.trans HS.out)
      obtain ⟨ad, rfl⟩ : ∃ ad, A0 = some ad := by obtain ⟨ad, c, e, _⟩ := Kd.C_get HR.out zGun i hi hlt; exact ⟨ad, e⟩
      obtain ⟨hx0, hx1, hx2, hx3, hx4, hx5, hx6, hx7⟩ := rx_Gun HR.out
      have hlt2 := decide_eq_true hlt
      replace hi := eq_true hi; replace hlt := eq_true hlt
      cases hq : p i
      · have HS := Aside0.mk ((if_neg (by rw [hq]; simp)).symm.trans HS.out)
        have HQ := Aside0.mk hq
        clear hq
        go_wp2_with fail
        (with_reducible refine (HP.out _ i HB HI.out HL.out).mono ?_)
        rintro e w' ⟨rfl, hb⟩
        rw [HQ.out]
        have HB := Up.step HB hb
        go_wp2
        go_roundg (gk - 1)
        case measure => have := HL.out; have := HI.out; omega
        case rel => exact ⟨i + 1, (by first | rfl | (simp; done) | (have := HL.out; have := HI.out; have := HN.out; congr 1; unfold wrap64; omega)), by have := HI.out; omega, by have := HL.out; have := HI.out; omega, HS, HB⟩
      · have HS := Aside0.mk ((if_pos hq).symm.trans HS.out)
        have HQ := Aside0.mk hq
        clear hq
        go_wp2_with fail
        (with_reducible refine (HP.out _ i HB HI.out HL.out).mono ?_)
        rintro e w' ⟨rfl, hb⟩
        rw [HQ.out]
        have HB := Up.step HB hb
        go_wp2
        go_ret
        exact ⟨ret_i HS.out, HB⟩
    · have HS := Aside0.mk ((idxF_end (p := p) (by omega : (l.length : Int) ≤ i)).symm.trans HS.out)
      replace hlt := decide_eq_false hlt
      go_wp2
      go_ret
      exact ⟨ret_i HS.out, HB⟩
set_option maxHeartbeats 4000000 in
theorem ContainsFunc_Gun_c (g B : Nat) (p : Int → Bool) (r : Bool) (A0 : Option Addr) (c0 : Nat) (l : List SGun) (w : World) (h : decide (0 ≤ idxF p (l.length - (0 : Int).toNat) 0) = r) (hr0 : Kd.C kGun w A0 l.length l)
    (eg : ∀ args w, (callFunc g args).run Try.prog w = .ok (.enter g args) w)
    (hp : ∀ (W : World) (i : Int), Up w W → 0 ≤ i → i < l.length → Calls Try.prog g #[.agg #[.int .i64 (rd_Gun l i).f0, .int .i64 (rd_Gun l i).f1, .int .i64 (rd_Gun l i).f2, .int .i64 (rd_Gun l i).f3, .int .i64 (rd_Gun l i).f4, .int .i64 (rd_Gun l i).f5, .int .i64 (rd_Gun l i).f6, .int .i64 (rd_Gun l i).f7], .pointer (some ⟨B, 0, none⟩)] W fun e w' => e = .returned (.bool (p i)) ∧ Up W w') :
    Calls Try.prog 38 #[.slice A0 l.length c0, .func (.func g) #[] #[.pointer (some ⟨B, 0, none⟩)]] w fun e w' => e = .returned (.bool r) ∧ Up w w' := by
  have C := IndexFunc_Gun_c g B p _ A0 c0 l w rfl hr0 eg hp
  generalize idxF p (l.length - (0 : Int).toNat) 0 = z at h C
  subst h
  have HC := Aside0.mk C
  clear C hr0 hp
  go_enter Try.func38, Try.ntmps38
  go_wp2_with fail
  (with_reducible refine HC.out.mono ?_)
  rintro e w' ⟨rfl, hb⟩
  go_wp2
  go_ret
  exact ⟨rfl, hb⟩

end Go.Proofs.Ytahcalhpigmbgaa.H
