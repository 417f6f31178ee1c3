import Derived.Test.YtecpojiinappcaaHK
import Derived.Test.YtecpojiinappcaaHPk
import Derived.Test.YtecpojiinappcaaHHd
namespace Go.Proofs.Ytecpojiinappcaa.H
open Go.RowKit Go.Proofs.YtecpojiinappcaaW.PrintWords Go.Proofs.YtecpojiinappcaaW.PrintLast Go.Proofs.YtecpojiinappcaaW.PrintMore
set_option linter.unusedVariables false
set_option linter.unusedSimpArgs false
/-! the closures of split.Split, cmp.Compare, ContainsFunc of ints where none is met -/
set_option maxHeartbeats 4000000 in
theorem isNaN_c (x : Int) (w : World) : Calls Try.prog 48 #[.int .i64 x] w fun e w' => e = .returned (.bool false) ∧ w' = w := by
  have h : (x != x) = false := bne_self_eq_false x
  go_enter Try.func48, Try.ntmps48
  go_wp2
  go_ret
  exact ⟨by simp, rfl⟩
def cmpI (x y : Int) : Int := if x < y then -1 else if y < x then 1 else 0
set_option maxHeartbeats 4000000 in
theorem Compare_c (x y r : Int) (w : World) (h : cmpI x y = r) : Calls Try.prog 43 #[.int .i64 x, .int .i64 y] w fun e w' => e = .returned (.int .i64 r) ∧ Up w w' := by
  have HB := Up.refl w
  subst h
  by_cases t1 : x < y
  · have HS := Aside0.mk (show cmpI x y = -1 by simp [cmpI, t1])
    replace t1 := decide_eq_true t1
    go_enter Try.func43, Try.ntmps43
    go_wp2_with (go_at_call 48; (with_reducible refine (isNaN_c _ _).mono ?_); rintro e w' ⟨rfl, rfl⟩)
    go_ret
    exact ⟨ret_i HS.out.symm, HB⟩
  · by_cases t2 : y < x
    · have HS := Aside0.mk (show cmpI x y = 1 by simp [cmpI, t1, t2])
      replace t1 := decide_eq_false t1
      replace t2 := decide_eq_true t2
      go_enter Try.func43, Try.ntmps43
      go_wp2_with (go_at_call 48; (with_reducible refine (isNaN_c _ _).mono ?_); rintro e w' ⟨rfl, rfl⟩)
      go_ret
      exact ⟨ret_i HS.out.symm, HB⟩
    · have HS := Aside0.mk (show cmpI x y = 0 by simp [cmpI, t1, t2])
      replace t1 := decide_eq_false t1; replace t2 := decide_eq_false t2
      go_enter Try.func43, Try.ntmps43
      go_wp2_with (go_at_call 48; (with_reducible refine (isNaN_c _ _).mono ?_); rintro e w' ⟨rfl, rfl⟩)
      go_ret
      exact ⟨ret_i HS.out.symm, HB⟩
set_option maxHeartbeats 4000000 in
theorem odd_c (x : Int) (w : World) (h0 : 0 ≤ x) (h1 : x ≤ 1000000000) : Calls Try.prog 33 #[.int .i64 x] w fun e w' => e = .returned (.bool false) ∧ Up w w' := by
  have HB := Up.refl w
  have t1 := decide_eq_false (show ¬ x < 0 by omega)
  have t2 := decide_eq_false (show ¬ 1000000000 < x by omega)
  clear h0 h1
  go_enter Try.func33, Try.ntmps33
  go_wp2
  go_ret
  exact ⟨rfl, HB⟩
set_option maxHeartbeats 4000000 in
theorem isAmount_c (x : Int) (w : World) (h0 : 0 ≤ x) (h1 : x ≤ 1099511627776) : Calls Try.prog 34 #[.int .i64 x] w fun e w' => e = .returned (.bool true) ∧ Up w w' := by
  have HB := Up.refl w
  have t1 := decide_eq_true h0
  have t2 := decide_eq_true h1
  clear h0 h1
  go_enter Try.func34, Try.ntmps34
  go_wp2
  go_ret
  exact ⟨rfl, HB⟩
set_option maxHeartbeats 4000000 in
theorem ident_c (x : Int) (w : World) : Calls Try.prog 40 #[.int .i64 x] w fun e w' => e = .returned (.int .i64 x) ∧ Up w w' := by
  have HB := Up.refl w
  go_enter Try.func40, Try.ntmps40
  go_wp2
  go_ret
  exact ⟨rfl, HB⟩
set_option maxHeartbeats 4000000 in
theorem IndexI_c (A0 : Option Addr) (c0 : Nat) (l : List Int) (w : World) (hok : okW l) (hr0 : Kd.C (Kd.int .i64) w A0 l.length l) :
    Calls Try.prog 44 #[.slice A0 l.length c0, .func (.func 33) #[] #[]] w fun e w' => e = .returned (.int .i64 (-1)) ∧ Up w w' := by
  have HB := Up.refl w
  have HK := Aside0.mk hok
  have HR := Aside0.mk hr0
  have eg := fun args w => enters_ Try.func33 (by kernel_rfl) rfl args w
  clear hok hr0
  go_enter Try.func44, Try.ntmps44
  go_wp2
  go_loopg [5, 8] (l.length) (fun gk _ v8 w' => ∃ i : Int, v8 = .int .i64 i ∧ 0 ≤ i ∧ l.length - i.toNat ≤ gk ∧ Up w w')
  case atStart => exact ⟨0, rfl, by omega, by omega, HB⟩
  case round =>
    clear HB
    obtain ⟨i, rfl, hi, hg, HB⟩ := hrel
    have HI := Aside0.mk hi
    by_cases hlt : i < l.length
    · have HL := Aside0.mk hlt
      obtain ⟨ad, rfl⟩ : ∃ ad, A0 = some ad := by obtain ⟨ad, c, e, _⟩ := Kd.C_get HR.out 0 i hi hlt; exact ⟨ad, e⟩
      have hx0 := rx_Int HR.out
      have hlt2 := decide_eq_true hlt
      replace hi := eq_true hi; replace hlt := eq_true hlt
      go_wp2_with fail
      have hbd := HK.out.2 i HI.out HL.out
      (with_reducible refine (odd_c _ _ hbd.1 hbd.2).mono ?_)
      clear hbd
      rintro e w' ⟨rfl, hb⟩
      have HB := Up.step HB hb
      go_wp2
      go_roundg (gk - 1)
      case measure => have := HL.out; have := HI.out; omega
      case rel => exact ⟨i + 1, (by first | rfl | (simp; done) | (have := HL.out; have := HI.out; have := HK.out.1; congr 1; unfold wrap64; omega)), by have := HI.out; omega, by have := HL.out; have := HI.out; omega, HB⟩
    · replace hlt := decide_eq_false hlt
      go_wp2
      go_ret
      exact ⟨rfl, HB⟩
set_option maxHeartbeats 4000000 in
theorem ContainsI_c (A0 : Option Addr) (c0 : Nat) (l : List Int) (w : World) (hok : okW l) (hr0 : Kd.C (Kd.int .i64) w A0 l.length l) :
    Calls Try.prog 35 #[.slice A0 l.length c0, .func (.func 33) #[] #[]] w fun e w' => e = .returned (.bool false) ∧ Up w w' := by
  have HC := Aside0.mk (IndexI_c A0 c0 l w hok hr0)
  clear hok hr0
  go_enter Try.func35, Try.ntmps35
  go_wp2_with fail
  (with_reducible refine HC.out.mono ?_)
  rintro e w' ⟨rfl, hb⟩
  go_wp2
  go_ret
  exact ⟨rfl, hb⟩
set_option maxHeartbeats 8000000 in
theorem byRest_c (B g n c : Nat) (rs : List Int) (i k r : Int) (w : World) (hi0 : 0 ≤ i) (hi1 : i < n) (hk0 : 0 ≤ k) (hk1 : k < n) (h : cmpI (rd_Int rs k) (rd_Int rs i) = r)
    (hb : w.cell? ⟨B, 0, none⟩ = some (.slice (some ⟨g, 0, none⟩) n c)) (hc : ∀ j : Int, 0 ≤ j → j < n → w.cell? ⟨g, j.toNat, none⟩ = some (.int .i64 (rd_Int rs j))) :
    Calls Try.prog 42 #[.int .i64 i, .int .i64 k, .pointer (some ⟨B, 0, none⟩)] w fun e w' => e = .returned (.int .i64 r) ∧ Up w w' := by
  have p1 := hc i hi0 hi1
  have p2 := hc k hk0 hk1
  obtain ⟨x, hx⟩ : ∃ x, rd_Int rs i = x := ⟨_, rfl⟩
  obtain ⟨y, hy⟩ : ∃ x, rd_Int rs k = x := ⟨_, rfl⟩
  rw [hx] at p1 h
  rw [hy] at p2 h
  have HS := Aside0.mk h
  have C0 := Aside0.mk (fun W (u : Up w W) => (u.cell (World.block_lt_of_cell? w _ hb)).trans hb)
  have C1 := Aside0.mk (fun W (u : Up w W) => (u.cell (World.block_lt_of_cell? w _ p1)).trans p1)
  have C2 := Aside0.mk (fun W (u : Up w W) => (u.cell (World.block_lt_of_cell? w _ p2)).trans p2)
  clear hc hx hy h hb p1 p2
  replace hi0 := eq_true hi0; replace hi1 := eq_true hi1; replace hk0 := eq_true hk0; replace hk1 := eq_true hk1
  go_enter Try.func42, Try.ntmps42
  go_upto_region 1 with (fail)
  first | (go_region_held3 (fun w' => Up w w' ∧ w'.cell? ⟨B, 0, none⟩ = some (.slice (some ⟨g, 0, none⟩) n c) ∧ w'.cell? ⟨g, i.toNat, none⟩ = some (.int .i64 x) ∧ w'.cell? ⟨g, k.toNat, none⟩ = some (.int .i64 y)) (first | (have hU_ := (Up.refl w).drew; exact ⟨hU_, C0.out _ hU_, C1.out _ hU_, C2.out _ hU_⟩) | (have hU_ : Up w _ := (by assumption); exact ⟨hU_, C0.out _ hU_, C1.out _ hU_, C2.out _ hU_⟩)) (first | (go_at_call 43; (with_reducible refine (Compare_c y x r _ HS.out).mono ?_); rintro e w' ⟨rfl, hb⟩; have hU := Up.step (w := w) (by first | assumption | exact (Up.refl w).drew) hb; clear hb))) | fail
  all_goals
    have HZ := Aside0.mk (show Up w _ by assumption)
    go_wp2
    go_ret
    exact ⟨rfl, HZ.out⟩

end Go.Proofs.Ytecpojiinappcaa.H
