import Derived.Test.YtahcalhpigmbgaaHK
import Derived.Test.YtahcalhpigmbgaaHFx
namespace Go.Proofs.Ytahcalhpigmbgaa.H
open Go.RowKit Go.Proofs.YtahcalhpigmbgaaW.PrintWords Go.Proofs.YtahcalhpigmbgaaW.PrintLast Go.Proofs.YtahcalhpigmbgaaW.PrintMore
set_option linter.unusedVariables false
set_option linter.unusedSimpArgs false
/-! gun kinds: how a list of them reads; slices.IndexFunc over them; gun.kind, the reference's find -/
def RdGK (w : World) (A0 : Option Addr) (l : List SGunKind) (A1 : Int → Option Addr) (C1 : Int → Nat) : Prop :=
  (A0 = none → l.length = 0) ∧ l.length ≤ 9223372036854775807 ∧
  (∀ ad, A0 = some ad → (∀ (W : World) (i : Int), Up w W → 0 ≤ i → i < l.length → W.cell? (ad.add (i.toNat * 4)) = some (.int .i64 (rd_GunKind l i).f0)) ∧
    (∀ (W : World) (i : Int), Up w W → 0 ≤ i → i < l.length → W.cell? ⟨(ad.add (i.toNat * 4)).block, (ad.add (i.toNat * 4)).off + 1, none⟩ = some (.slice (A1 i) (rd_GunKind l i).f1.length (C1 i))) ∧
    (∀ (W : World) (i : Int), Up w W → 0 ≤ i → i < l.length → W.cell? ⟨(ad.add (i.toNat * 4)).block, (ad.add (i.toNat * 4)).off + 2, none⟩ = some (.int .i64 (rd_GunKind l i).f2)) ∧
    (∀ (W : World) (i : Int), Up w W → 0 ≤ i → i < l.length → W.cell? ⟨(ad.add (i.toNat * 4)).block, (ad.add (i.toNat * 4)).off + 3, none⟩ = some (.int .i64 (rd_GunKind l i).f3))) ∧
  ∀ (i : Int), 0 ≤ i → i < l.length → (rd_GunKind l i).f1.length ≤ C1 i ∧ Kd.C kPoint w (A1 i) (rd_GunKind l i).f1.length (rd_GunKind l i).f1
theorem RdGK_of {w : World} {A0 : Option Addr} {l : List SGunKind} (h : Kd.C kGunKind w A0 l.length l) : ∃ A1 C1, RdGK w A0 l A1 C1 := by
  cases A0 with
  | none =>
    have h0 : l.length = 0 := by
      by_cases e : l.length = 0
      · exact e
      · obtain ⟨ad, c, e2, _⟩ := Kd.C_get h zGunKind 0 (by omega) (by omega); cases e2
    exact ⟨fun _ => none, fun _ => 0, (fun _ => h0), (by omega), (fun ad e => by cases e), (fun i h1 h2 => by omega)⟩
  | some ad =>
    obtain ⟨A1, C1, x0, x1, x2, x3, n1⟩ := rx_GunKind h
    exact ⟨A1, C1, (fun e => by cases e), Kd.C_max h, (fun ad' e => by cases e; exact ⟨x0, x1, x2, x3⟩), n1⟩
theorem RdGK.up {w W : World} {A0 : Option Addr} {l : List SGunKind} {A1 : Int → Option Addr} {C1 : Int → Nat} (h : RdGK w A0 l A1 C1) (hu : Up w W) : RdGK W A0 l A1 C1 := by
  obtain ⟨h1, h2, h3, h4⟩ := h
  refine ⟨h1, h2, fun ad e => ?_, fun i a b => ⟨(h4 i a b).1, C_up (h4 i a b).2 hu⟩⟩
  obtain ⟨x0, x1, x2, x3⟩ := h3 ad e
  exact ⟨fun X i u a b => x0 X i (hu.step u) a b, fun X i u a b => x1 X i (hu.step u) a b, fun X i u a b => x2 X i (hu.step u) a b, fun X i u a b => x3 X i (hu.step u) a b⟩
set_option maxHeartbeats 4000000 in
theorem IndexFunc_GunKind_c (g B : Nat) (p : Int → Bool) (r : Int) (A0 : Option Addr) (c0 : Nat) (l : List SGunKind) (A1 : Int → Option Addr) (C1 : Int → Nat) (w : World) (h : idxF p (l.length - (0 : Int).toNat) 0 = r) (hr0 : RdGK w A0 l A1 C1)
    (eg : ∀ args w, (callFunc g args).run Try.prog w = .ok (.enter g args) w)
    (hp : ∀ (W : World) (i : Int), Up w W → 0 ≤ i → i < l.length → Calls Try.prog g #[.agg #[.int .i64 (rd_GunKind l i).f0, .slice (A1 i) (rd_GunKind l i).f1.length (C1 i), .int .i64 (rd_GunKind l i).f2, .int .i64 (rd_GunKind l i).f3], .pointer (some ⟨B, 0, none⟩)] W fun e w' => e = .returned (.bool (p i)) ∧ Up W w') :
    Calls Try.prog 52 #[.slice A0 l.length c0, .func (.func g) #[] #[.pointer (some ⟨B, 0, none⟩)]] w fun e w' => e = .returned (.int .i64 r) ∧ Up w w' := by
  have hu := Try.underlying39
  have HB := Up.refl w
  have HP := Aside0.mk hp
  have HS := Aside0.mk h
  have HN := Aside0.mk hr0.2.1
  have HR := Aside0.mk hr0
  clear hp h hr0
  go_enter Try.func52, Try.ntmps52
  go_wp2
  go_loopg [5, 8] (l.length) (fun gk _ v8 w' => ∃ i : Int, v8 = .int .i64 i ∧ 0 ≤ i ∧ l.length - i.toNat ≤ gk ∧ Aside0 (idxF p (l.length - i.toNat) i = r) ∧ Up w w')
  case atStart => exact ⟨0, rfl, by omega, by omega, HS, HB⟩
  case round =>
    clear HS HB
    obtain ⟨i, rfl, hi, hg, HS, HB⟩ := hrel
    have HI := Aside0.mk hi
    by_cases hlt : i < l.length
    · have HL := Aside0.mk hlt
      have HS := Aside0.mk ((idxF_step hi hlt).symm.trans HS.out)
      obtain ⟨ad, rfl⟩ : ∃ ad, A0 = some ad := by
        cases A0 with
        | none => have := HR.out.1 rfl; omega
        | some ad => exact ⟨ad, rfl⟩
      obtain ⟨hx0, hx1, hx2, hx3⟩ := HR.out.2.2.1 ad rfl
      have hlt2 := decide_eq_true hlt
      replace hi := eq_true hi; replace hlt := eq_true hlt
      cases hq : p i
      · have HS := Aside0.mk ((if_neg (by rw [hq]; simp)).symm.trans HS.out)
        have HQ := Aside0.mk hq
        clear hq
        go_wp2_with fail
        (with_reducible refine (HP.out _ i HB HI.out HL.out).mono ?_)
        rintro e w' ⟨rfl, hb⟩
        rw [HQ.out]
        have HB := Up.step HB hb
        go_wp2
        go_roundg (gk - 1)
        case measure => have := HL.out; have := HI.out; omega
        case rel => exact ⟨i + 1, (by first | rfl | (simp; done) | (have := HL.out; have := HI.out; have := HN.out; congr 1; unfold wrap64; omega)), by have := HI.out; omega, by have := HL.out; have := HI.out; omega, HS, HB⟩
      · have HS := Aside0.mk ((if_pos hq).symm.trans HS.out)
        have HQ := Aside0.mk hq
        clear hq
        go_wp2_with fail
        (with_reducible refine (HP.out _ i HB HI.out HL.out).mono ?_)
        rintro e w' ⟨rfl, hb⟩
        rw [HQ.out]
        have HB := Up.step HB hb
        go_wp2
        go_ret
        exact ⟨ret_i HS.out, HB⟩
    · have HS := Aside0.mk ((idxF_end (p := p) (by omega : (l.length : Int) ≤ i)).symm.trans HS.out)
      replace hlt := decide_eq_false hlt
      go_wp2
      go_ret
      exact ⟨ret_i HS.out, HB⟩
set_option maxHeartbeats 4000000 in
theorem kindLit_c (B : Nat) (id a0 : Int) (v1 : Value) (a2 a3 : Int) (h1 : v1.cells = #[v1]) (w : World) (hb : B < w.heap.size) (hc : w.cell? ⟨B, 0, none⟩ = some (.int .i64 id)) :
    Calls Try.prog 53 #[.agg #[.int .i64 a0, v1, .int .i64 a2, .int .i64 a3], .pointer (some ⟨B, 0, none⟩)] w fun e w' => e = .returned (.bool (a0 == id)) ∧ Up w w' := by
  have hu := Try.underlying39
  have HB := Up.refl w
  go_enter Try.func53, Try.ntmps53
  go_wp2
  go_ret
  exact ⟨rfl, (by repeat (with_reducible first | exact HB | apply Up.alloc | apply Up.drewN | apply Up.drew))⟩
def kindX (l : List SGunKind) (id : Int) : Int := idxF (fun i => (rd_GunKind l i).f0 == id) (l.length - (0 : Int).toNat) 0
theorem idxF_rng {p : Int → Bool} : ∀ (d : Nat) (i j : Int), idxF p d i = j → j = -1 ∨ (i ≤ j ∧ j < i + d ∧ p j = true) := by
  intro d
  induction d with
  | zero => intro i j h; exact .inl h.symm
  | succ d ih =>
    intro i j h
    simp only [idxF] at h
    split at h
    · rename_i c; subst h; exact .inr ⟨by omega, by omega, c⟩
    · rcases ih (i + 1) j h with h | h
      · exact .inl h
      · exact .inr ⟨by omega, by omega, h.2.2⟩

end Go.Proofs.Ytahcalhpigmbgaa.H
