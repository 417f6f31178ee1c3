import Derived.Test.YtcnamihkghiigaaHK
import Derived.Test.YtcnamihkghiigaaHSw
namespace Go.Proofs.Ytcnamihkghiigaa.H
open Go.RowKit Go.Proofs.YtcnamihkghiigaaW.PrintWords Go.Proofs.YtcnamihkghiigaaW.PrintLast Go.Proofs.YtcnamihkghiigaaW.PrintMore
set_option linter.unusedVariables false
set_option linter.unusedSimpArgs false
/-! Groom of both -/
def groomS (l : List SSurface) (run t : Int) : List SSurface × Int := if surX l run < 0 then ([], 8) else if t < 0 ∨ t < (rd_Surface l (surX l run)).f1 ∨ 20000000 < t then ([], 11) else (l.set (surX l run).toNat ⟨run, t, 0⟩, 0)
theorem idxF_rg {p : Int → Bool} : ∀ (d : Nat) (i j : Int), idxF p d i = j → j = -1 ∨ (i ≤ j ∧ j < i + d ∧ p j = true) := by
  intro d
  induction d with
  | zero => intro i j h; exact .inl h.symm
  | succ d ih =>
    intro i j h
    simp only [idxF] at h
    split at h
    · rename_i c; subst h; exact .inr ⟨by omega, by omega, c⟩
    · rcases ih (i + 1) j h with h | h
      · exact .inl h
      · exact .inr ⟨by omega, by omega, h.2.2⟩
theorem surX_lt {l : List SSurface} {run j : Int} (h : surX l run = j) (h0 : 0 ≤ j) : j < l.length ∧ (rd_Surface l j).f0 = run := by
  rcases idxF_rg _ _ _ h with h | h
  · omega
  · exact ⟨by simp at h; omega, by simpa using h.2.2⟩
set_option maxHeartbeats 8000000 in
theorem GroomR_c (A0 : Option Addr) (c0 : Nat) (l : List SSurface) (run t : Int) (w : World) (R : List SSurface) (e : Int) (h : groomS l run t = (R, e)) (hn : l.length ≤ 1000) (hr0 : Kd.C kSurface w A0 l.length l) :
    Calls Try.prog 15 #[.slice A0 l.length c0, .int .i64 run, .int .i64 t] w fun en w' => ∃ v, en = .returned (.tuple #[v, .int .i64 e]) ∧ Kd.R kSurface 32 w' w.heap.size (fun _ => True) v R ∧ Up w w' := by
  have hu := Try.underlying32
  have HR := Aside0.mk hr0
  have HN := Aside0.mk hn
  obtain ⟨i, hi⟩ : ∃ i, surX l run = i := ⟨_, rfl⟩
  have HX := Aside0.mk hi
  rw [groomS, hi] at h
  have HS := Aside0.mk h
  have HB := Up.refl w
  clear hr0 hn h hi
  go_enter Try.func15, Try.ntmps15
  go_wp2_with fail
  (with_reducible refine (surIndex_c A0 c0 l run _ i HX.out (C_up HR.out HB)).mono ?_)
  rintro en w1 ⟨rfl, hb⟩
  have HR := Aside0.mk (C_up HR.out hb)
  have HU := Aside0.mk (Up.step HB hb)
  clear HB hb
  by_cases t1 : i < 0
  · have hs := (if_pos t1).symm.trans HS.out
    simp only [Prod.mk.injEq] at hs
    obtain ⟨rfl, rfl⟩ := hs
    replace t1 := decide_eq_true t1
    go_wp2
    exact bodyPost_ret (v := .tuple #[.slice none 0 0, .int .i64 8]) (by simp [results, Try.results15, go_sem]) rfl ⟨_, rfl, Kd.R_nil _ _ _ _ _, HU.out⟩
  have HS := Aside0.mk ((if_neg t1).symm.trans HS.out)
  have h0 : 0 ≤ i := by omega
  have hlt := (surX_lt HX.out h0).1
  have HI := Aside0.mk h0
  have HL := Aside0.mk hlt
  obtain ⟨ad, rfl⟩ : ∃ ad, A0 = some ad := by obtain ⟨ad, c, e, _⟩ := Kd.C_get HR.out zSurface i h0 hlt; exact ⟨ad, e⟩
  obtain ⟨hx0, hx1, hx2⟩ := rx_Surface HR.out
  have HB := Up.refl w1
  replace h0 := eq_true h0; replace hlt := eq_true hlt
  replace t1 := decide_eq_false t1
  by_cases t2 : t < (rd_Surface l i).f1
  rotate_left
  by_cases t3 : t < 0
  rotate_left
  by_cases t4 : 20000000 < t
  rotate_left
  · have hs := (if_neg (show ¬ (t < 0 ∨ t < (rd_Surface l i).f1 ∨ 20000000 < t) by omega)).symm.trans HS.out
    simp only [Prod.mk.injEq] at hs
    obtain ⟨hq, rfl⟩ := hs
    have HQ := Aside0.mk hq
    clear hq
    replace t2 := decide_eq_false t2; replace t3 := decide_eq_false t3; replace t4 := decide_eq_false t4
    go_wp2_with fail
    (with_reducible refine (with_c (some ad) c0 l i run t 0 _ R HQ.out HI.out HN.out HR.out).mono ?_)
    rintro en w2 ⟨v, rfl, hR, hb⟩
    have HO := Aside0.mk (Kd.R_lower hR HU.out.size)
    have HU := Aside0.mk (Up.step HU.out hb)
    clear hR hb
    go_wp2
    exact bodyPost_ret (v := .tuple #[v, .int .i64 0]) (by simp [results, Try.results15, go_sem]) rfl ⟨_, rfl, HO.out, HU.out⟩
  all_goals
    have hs := (if_pos (show (t < 0 ∨ t < (rd_Surface l i).f1 ∨ 20000000 < t) by omega)).symm.trans HS.out
    simp only [Prod.mk.injEq] at hs
    obtain ⟨rfl, rfl⟩ := hs
    (first | replace t2 := decide_eq_false t2 | replace t2 := decide_eq_true t2 | skip); (first | replace t3 := decide_eq_false t3 | replace t3 := decide_eq_true t3 | skip); (first | replace t4 := decide_eq_false t4 | replace t4 := decide_eq_true t4 | skip)
    go_wp2; repeat (go_quiet (fail); try go_wp2)
    exact bodyPost_ret (v := .tuple #[.slice none 0 0, .int .i64 11]) (by simp [results, Try.results15, go_sem]) rfl ⟨_, rfl, Kd.R_nil _ _ _ _ _, HU.out⟩

end Go.Proofs.Ytcnamihkghiigaa.H
