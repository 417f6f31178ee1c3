import Derived.Test.YtcnamihkghiigaaHK
import Derived.Test.YtcnamihkghiigaaHSv
namespace Go.Proofs.Ytcnamihkghiigaa.H
open Go.RowKit Go.Proofs.YtcnamihkghiigaaW.PrintWords Go.Proofs.YtcnamihkghiigaaW.PrintLast Go.Proofs.YtcnamihkghiigaaW.PrintMore
set_option linter.unusedVariables false
set_option linter.unusedSimpArgs false
/-! stable sort of at most 19 surfaces; DeleteFunc where nothing is struck; Worst there; SameInts -/
set_option maxHeartbeats 4000000 in
theorem IndexFuncL_c (g : Nat) (lb : Array Value) (p : Int → Bool) (r : Int) (A0 : Option Addr) (c0 : Nat) (l : List SSurface) (w : World) (h : idxF p (l.length - (0 : Int).toNat) 0 = r) (hr0 : Kd.C kSurface w A0 l.length l)
    (eg : ∀ args w, (callFunc g args).run Try.prog w = .ok (.enter g args) w)
    (hp : ∀ (W : World) (i : Int), Up w W → 0 ≤ i → i < l.length → Calls Try.prog g (#[.agg #[.int .i64 (rd_Surface l i).f0, .int .i64 (rd_Surface l i).f1, .int .i64 (rd_Surface l i).f2]] ++ lb) W fun e w' => e = .returned (.bool (p i)) ∧ Up W w') :
    Calls Try.prog 32 #[.slice A0 l.length c0, .func (.func g) #[] lb] w fun e w' => e = .returned (.int .i64 r) ∧ Up w w' := by
  have hu := Try.underlying32
  have HB := Up.refl w
  have HP := Aside0.mk hp
  have HS := Aside0.mk h
  have HN := Aside0.mk (Kd.C_max hr0)
  have HR := Aside0.mk hr0
  clear hp h hr0
  go_enter Try.func32, Try.ntmps32
  go_wp2
  go_loopg [5, 8] (l.length) (fun gk _ v8 w' => ∃ i : Int, v8 = .int .i64 i ∧ 0 ≤ i ∧ l.length - i.toNat ≤ gk ∧ Aside0 (idxF p (l.length - i.toNat) i = r) ∧ Up w w')
  case atStart => exact ⟨0, rfl, by omega, by omega, HS, HB⟩
  case round =>
    clear HS HB
    obtain ⟨i, rfl, hi, hg, HS, HB⟩ := hrel
    have HI := Aside0.mk hi
    by_cases hlt : i < l.length
    · have HL := Aside0.mk hlt
      have HS := Aside0.mk ((idxF_step hi hlt).symm.trans HS.out)
      obtain ⟨ad, rfl⟩ : ∃ ad, A0 = some ad := by obtain ⟨ad, c, e, _⟩ := Kd.C_get HR.out zSurface i hi hlt; exact ⟨ad, e⟩
      obtain ⟨hx0, hx1, hx2⟩ := rx_Surface HR.out
      have hlt2 := decide_eq_true hlt
      replace hi := eq_true hi; replace hlt := eq_true hlt
      cases hq : p i
      · have HS := Aside0.mk ((if_neg (by rw [hq]; simp)).symm.trans HS.out)
        have HQ := Aside0.mk hq
        clear hq
        go_wp2_with fail
        (with_reducible refine (HP.out _ i HB HI.out HL.out).mono ?_)
        rintro e w' ⟨rfl, hb⟩
        rw [HQ.out]
        have HB := Up.step HB hb
        go_wp2
        go_roundg (gk - 1)
        case measure => have := HL.out; have := HI.out; omega
        case rel => exact ⟨i + 1, (by first | rfl | (simp; done) | (have := HL.out; have := HI.out; have := HN.out; congr 1; unfold wrap64; omega)), by have := HI.out; omega, by have := HL.out; have := HI.out; omega, HS, HB⟩
      · have HS := Aside0.mk ((if_pos hq).symm.trans HS.out)
        have HQ := Aside0.mk hq
        clear hq
        go_wp2_with fail
        (with_reducible refine (HP.out _ i HB HI.out HL.out).mono ?_)
        rintro e w' ⟨rfl, hb⟩
        rw [HQ.out]
        have HB := Up.step HB hb
        go_wp2
        go_ret
        exact ⟨ret_i HS.out, HB⟩
    · have HS := Aside0.mk ((idxF_end (p := p) (by omega : (l.length : Int) ≤ i)).symm.trans HS.out)
      replace hlt := decide_eq_false hlt
      go_wp2
      go_ret
      exact ⟨ret_i HS.out, HB⟩

def sortS (c : SSurface → SSurface → Int) (xs : List SSurface) : List SSurface := outF c 0 ((xs.length : Int) - (0 + 1)).toNat (0 + 1) xs
set_option maxHeartbeats 8000000 in
theorem stable_c (f : Nat) (lb : Array Value) (c : SSurface → SSurface → Int) (w0 w : World) (g n cap : Nat) (xs : List SSurface) (hn : xs.length ≤ 19)
    (hr : Kd.R kSurface 32 w w0.heap.size (fun _ => True) (.slice (some ⟨g, 0, none⟩) n cap) xs) (hu0 : Up w0 w)
    (eg : ∀ args w, (callFunc f args).run Try.prog w = .ok (.enter f args) w)
    (hp : ∀ (W : World) (x y : SSurface), Up w0 W → Calls Try.prog f (#[.agg #[.int .i64 x.f0, .int .i64 x.f1, .int .i64 x.f2], .agg #[.int .i64 y.f0, .int .i64 y.f1, .int .i64 y.f2]] ++ lb) W fun e w' => e = .returned (.int .i64 (c x y)) ∧ Up W w') :
    Calls Try.prog 34 #[.slice (some ⟨g, 0, none⟩) n cap, .int .i64 n, .func (.func f) #[] lb] w fun e w' => e = .returned (.tuple #[]) ∧ Kd.R kSurface 32 w' w0.heap.size (fun _ => True) (.slice (some ⟨g, 0, none⟩) n cap) (sortS c xs) ∧ Up w0 w' := by
  have hnx := (Kd.R_reads' hr).1
  have HN := Aside0.mk hn
  have HR := Aside0.mk hr
  have HU := Aside0.mk hu0
  have HP := Aside0.mk hp
  have HX := Aside0.mk hnx
  have t1 : decide (20 ≤ (n : Int)) = false := decide_eq_false (by omega)
  have t2 : decide (20 < (n : Int)) = false := decide_eq_false (by omega)
  have hins := insSort_c f lb c w0 w g n cap xs 0 n (by omega) (by omega) (by omega) (by omega) hr hu0 eg hp
  rw [show outF c 0 ((n : Int) - (0 + 1)).toNat (0 + 1) xs = sortS c xs by rw [hnx]; rfl] at hins
  clear hr hu0 hp hn hnx
  go_enter Try.func34, Try.ntmps34
  go_wp2
  go_loopg [7, 8] 1 (fun gk v7 v8 w' => v7 = .int .i64 0 ∧ v8 = .int .i64 20 ∧ w' = w)
  case atStart => exact ⟨rfl, rfl, rfl⟩
  case round =>
    obtain ⟨rfl, rfl, rfl⟩ := hrel
    go_wp2_with fail
    (with_reducible refine hins.mono ?_)
    rintro e w' ⟨rfl, hR, hb⟩
    have HO := Aside0.mk hR
    have HB2 := Aside0.mk hb
    clear hR hb hins
    go_wp2
    go_loopg [6] 1 (fun gk v6 w1 => v6 = .int .i64 20 ∧ w1 = w')
    case atStart => exact ⟨rfl, rfl⟩
    case round =>
      obtain ⟨rfl, rfl⟩ := hrel
      go_wp2
      exact bodyPost_end (by simp [results, Try.results34, go_sem]) rfl ⟨rfl, HO.out, HB2.out⟩
set_option maxHeartbeats 8000000 in
theorem sort_c (f : Nat) (lb : Array Value) (c : SSurface → SSurface → Int) (w0 w : World) (g n cap : Nat) (xs : List SSurface) (hn : xs.length ≤ 19)
    (hr : Kd.R kSurface 32 w w0.heap.size (fun _ => True) (.slice (some ⟨g, 0, none⟩) n cap) xs) (hu0 : Up w0 w)
    (eg : ∀ args w, (callFunc f args).run Try.prog w = .ok (.enter f args) w)
    (hp : ∀ (W : World) (x y : SSurface), Up w0 W → Calls Try.prog f (#[.agg #[.int .i64 x.f0, .int .i64 x.f1, .int .i64 x.f2], .agg #[.int .i64 y.f0, .int .i64 y.f1, .int .i64 y.f2]] ++ lb) W fun e w' => e = .returned (.int .i64 (c x y)) ∧ Up W w') :
    Calls Try.prog 30 #[.slice (some ⟨g, 0, none⟩) n cap, .func (.func f) #[] lb] w fun e w' => e = .returned (.tuple #[]) ∧ Kd.R kSurface 32 w' w0.heap.size (fun _ => True) (.slice (some ⟨g, 0, none⟩) n cap) (sortS c xs) ∧ Up w0 w' := by
  have hs := stable_c f lb c w0 w g n cap xs hn hr hu0 eg hp
  clear hr hu0 hp
  go_enter Try.func30, Try.ntmps30
  go_wp2_with fail
  (with_reducible refine hs.mono ?_)
  rintro e w' ⟨rfl, hR, hb⟩
  have HO := Aside0.mk hR
  have HB2 := Aside0.mk hb
  clear hR hb hs
  go_wp2
  exact bodyPost_end (by simp [results, Try.results30, go_sem]) rfl ⟨rfl, HO.out, HB2.out⟩
set_option maxHeartbeats 8000000 in
theorem DelNone_c (g : Nat) (lb : Array Value) (p : Int → Bool) (A0 : Option Addr) (c0 : Nat) (l : List SSurface) (w : World) (h : idxF p (l.length - (0 : Int).toNat) 0 = -1) (hr0 : Kd.C kSurface w A0 l.length l)
    (eg : ∀ args w, (callFunc g args).run Try.prog w = .ok (.enter g args) w)
    (hp : ∀ (W : World) (i : Int), Up w W → 0 ≤ i → i < l.length → Calls Try.prog g (#[.agg #[.int .i64 (rd_Surface l i).f0, .int .i64 (rd_Surface l i).f1, .int .i64 (rd_Surface l i).f2]] ++ lb) W fun e w' => e = .returned (.bool (p i)) ∧ Up W w') :
    Calls Try.prog 28 #[.slice A0 l.length c0, .func (.func g) #[] lb] w fun e w' => e = .returned (.slice A0 l.length c0) ∧ Up w w' := by
  have hi := IndexFuncL_c g lb p (-1) A0 c0 l w h hr0 eg hp
  clear hp h hr0
  go_enter Try.func28, Try.ntmps28
  go_wp2_with fail
  (with_reducible refine hi.mono ?_)
  rintro e w' ⟨rfl, hb⟩
  clear hi
  go_wp2
  go_ret
  exact ⟨rfl, hb⟩

end Go.Proofs.Ytcnamihkghiigaa.H
