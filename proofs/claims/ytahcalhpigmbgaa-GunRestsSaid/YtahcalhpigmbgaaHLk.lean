import Derived.Test.YtahcalhpigmbgaaHK
import Derived.Test.YtahcalhpigmbgaaHDo4
import Derived.Test.YtahcalhpigmbgaaWRepsOne
namespace Go.Proofs.Ytahcalhpigmbgaa.H
open Go.RowKit Go.Proofs.YtahcalhpigmbgaaW.PrintWords Go.Proofs.YtahcalhpigmbgaaW.PrintLast Go.Proofs.YtahcalhpigmbgaaW.PrintMore
set_option linter.unusedVariables false
set_option linter.unusedSimpArgs false
/-! the law's own helpers: kind, off, few, act -/
theorem C_lit {α : Type} {d : Kd α} {W : World} {g e : Nat} {xs : List α} {inner : List Value} (hb : W.heap[g]? = some (.cells inner.toArray e (0, 0))) (hr : Reps (d.K W) d.sz xs inner) (hm : xs.length ≤ 9223372036854775807) : Kd.C d W (some ⟨g, 0, none⟩) xs.length xs := by
  refine ⟨rfl, hm, fun _ => ⟨_, rfl, fun j p hj => ⟨_, ?_, hr.2 j p hj, fun i u hu => ?_⟩⟩⟩
  · have h1 := hr.1
    have h2 : j < xs.length := (List.getElem?_eq_some_iff.1 hj).1
    have h3 : j * d.sz + d.sz ≤ xs.length * d.sz := by rw [← Nat.succ_mul]; exact Nat.mul_le_mul_right _ h2
    rw [List.length_take, List.length_drop, h1]; omega
  · have h4 : inner[j * d.sz + i]? = some u := by
      rw [List.getElem?_take] at hu
      split at hu
      · rwa [List.getElem?_drop] at hu
      · cases hu
    have := (blk_cell hb (j * d.sz + i)).trans (by simpa using h4)
    rw [show Addr.add ⟨g, 0, none⟩ (j * d.sz + i) = ⟨g, j * d.sz + i, none⟩ by unfold Addr.add; split <;> simp_all]
    exact this
theorem C_one_Gun {W : World} {g e : Nat} (x : SGun) (hb : W.heap[g]? = some (.cells #[.int .i64 x.f0, .int .i64 x.f1, .int .i64 x.f2, .int .i64 x.f3, .int .i64 x.f4, .int .i64 x.f5, .int .i64 x.f6, .int .i64 x.f7] e (0, 0))) : Kd.C kGun W (some ⟨g, 0, none⟩) [x].length [x] :=
  C_lit (inner := [.int .i64 x.f0, .int .i64 x.f1, .int .i64 x.f2, .int .i64 x.f3, .int .i64 x.f4, .int .i64 x.f5, .int .i64 x.f6, .int .i64 x.f7]) hb (Reps.c8 (kGun_mk W x) (Reps.none _ _)) (by simp)
theorem C_one_Draw {W : World} {g e : Nat} (x : SDraw) (hb : W.heap[g]? = some (.cells #[.int .i64 x.f0, .int .i64 x.f1] e (0, 0))) : Kd.C kDraw W (some ⟨g, 0, none⟩) [x].length [x] :=
  C_lit (inner := [.int .i64 x.f0, .int .i64 x.f1]) hb (Reps.c2 (kDraw_mk W x) (Reps.none _ _)) (by simp)
theorem C_one_Point {W : World} {g e : Nat} (x : SPoint) (hb : W.heap[g]? = some (.cells #[.int .i64 x.f0, .int .i64 x.f1] e (0, 0))) : Kd.C kPoint W (some ⟨g, 0, none⟩) [x].length [x] :=
  C_lit (inner := [.int .i64 x.f0, .int .i64 x.f1]) hb (Reps.c2 (kPoint_mk W x) (Reps.none _ _)) (by simp)
theorem C_one_Kind {W : World} {g e : Nat} (x : SGunKind) {A : Option Addr} {c : Nat} (hb : W.heap[g]? = some (.cells #[.int .i64 x.f0, .slice A x.f1.length c, .int .i64 x.f2, .int .i64 x.f3] e (0, 0))) (hl : x.f1.length ≤ c) (hC : Kd.C kPoint W A x.f1.length x.f1) : Kd.C kGunKind W (some ⟨g, 0, none⟩) [x].length [x] :=
  C_lit (inner := [.int .i64 x.f0, .slice A x.f1.length c, .int .i64 x.f2, .int .i64 x.f3]) hb (Reps.c4 (kGunKind_mk W x hl hC) (Reps.none _ _)) (by simp)
def ptsK : List SPoint := [⟨-100, 300⟩, ⟨-20, 50⟩, ⟨0, 0⟩]
abbrev kindLaw : SGunKind := ⟨1, ptsK, 20000, 25000⟩
def offLaw : SGun := ⟨7, 3, 12, 1, 0, 1000, 600, 900⟩
set_option maxHeartbeats 4000000 in
theorem off_c (w : World) : Calls Try.prog 34 #[] w fun e w' => e = .returned (.agg #[.int .i64 7, .int .i64 3, .int .i64 12, .int .i64 1, .int .i64 0, .int .i64 1000, .int .i64 600, .int .i64 900]) ∧ Up w w' := by
  have hu := Try.underlying31
  have HB := Up.refl w
  go_enter Try.func34, Try.ntmps34
  go_wp2
  exact bodyPost_ret (results_cell_row rfl _ _ (w.heap.size) 31 #[.int .i64 7, .int .i64 3, .int .i64 12, .int .i64 1, .int .i64 0, .int .i64 1000, .int .i64 600, .int .i64 900] (0, 0) _ rfl (blk_new w _) Try.underlying31 rfl (by kernel_rfl)) rfl ⟨rfl, (by repeat (with_reducible first | exact HB | apply Up.alloc | apply Up.drewN | apply Up.drew))⟩
set_option maxHeartbeats 4000000 in
theorem kind_c (w : World) : Calls Try.prog 33 #[] w fun e w' => ∃ A, e = .returned (.agg #[.int .i64 1, .slice A ptsK.length 3, .int .i64 20000, .int .i64 25000]) ∧ Kd.C kPoint w' A ptsK.length ptsK ∧ Up w w' := by
  have hu := Try.underlying39
  have hu2 := Try.underlying66
  have HB := Up.refl w
  go_enter Try.func33, Try.ntmps33
  go_wp2
  exact bodyPost_ret (results_cell_row rfl _ _ (w.heap.size) 39 #[.int .i64 1, .slice (some ⟨w.heap.size + 1, 0, none⟩) 3 3, .int .i64 20000, .int .i64 25000] (0, 0) _ rfl (blk_alloc (blk_new w _) _) Try.underlying39 rfl (by kernel_rfl)) rfl ⟨_, rfl, C_lit (inner := [.int .i64 (-100), .int .i64 300, .int .i64 (-20), .int .i64 50, .int .i64 0, .int .i64 0]) (blk_2 w _ _) (Reps.c2 (kPoint_mk _ ⟨-100, 300⟩) (Reps.c2 (kPoint_mk _ ⟨-20, 50⟩) (Reps.c2 (kPoint_mk _ ⟨0, 0⟩) (Reps.none _ _)))) (by decide), (by repeat (with_reducible first | exact HB | apply Up.alloc | apply Up.drewN | apply Up.drew))⟩
def fewF (ks : List SGunKind) (i : Int) : Bool := decide ((rd_GunKind ks i).f1.length ≤ 90)
def fewS (ks : List SGunKind) (l : List SGun) : Bool := decide (ks.length ≤ 90) && decide (l.length ≤ 90) && allF (fewF ks) (ks.length - (0 : Int).toNat) 0
set_option maxHeartbeats 4000000 in
theorem few_c (A0 : Option Addr) (c0 : Nat) (ks : List SGunKind) (A1 : Int → Option Addr) (C1 : Int → Nat) (B0 : Option Addr) (d0 : Nat) (l : List SGun) (r : Bool) (w : World) (h : fewS ks l = r) (hr0 : RdGK w A0 ks A1 C1) :
    Calls Try.prog 10 #[.agg #[.slice A0 ks.length c0, .slice B0 l.length d0]] w fun e w' => e = .returned (.bool r) ∧ Up w w' := by
  have hu := Try.underlying25
  have hu2 := Try.underlying39
  have HB := Up.refl w
  have HR := Aside0.mk hr0
  have HM := Aside0.mk hr0.2.1
  by_cases t1 : 90 < (ks.length : Int)
  · obtain rfl : false = r := by rw [← h]; unfold fewS; rw [decide_eq_false (by omega)]; rfl
    clear h hr0
    replace t1 := decide_eq_true t1
    go_enter Try.func10, Try.ntmps10
    go_wp2; repeat (go_quiet (fail); try go_wp2)
    go_ret
    exact ⟨rfl, (by repeat (with_reducible first | exact HB | apply Up.alloc | apply Up.drewN | apply Up.drew))⟩
  by_cases t2 : 90 < (l.length : Int)
  · obtain rfl : false = r := by rw [← h]; unfold fewS; rw [decide_eq_false (p := l.length ≤ 90) (by omega)]; simp
    clear h hr0
    replace t1 := decide_eq_false t1
    replace t2 := decide_eq_true t2
    go_enter Try.func10, Try.ntmps10
    go_wp2; repeat (go_quiet (fail); try go_wp2)
    go_ret
    exact ⟨rfl, (by repeat (with_reducible first | exact HB | apply Up.alloc | apply Up.drewN | apply Up.drew))⟩
  have HS := Aside0.mk (show allF (fewF ks) (ks.length - (0 : Int).toNat) 0 = r by rw [← h]; unfold fewS; rw [decide_eq_true (by omega), decide_eq_true (p := l.length ≤ 90) (by omega)]; simp)
  clear h hr0
  replace t1 := decide_eq_false t1; replace t2 := decide_eq_false t2
  have HB := Up.refl (w.alloc (.cells #[.slice A0 ks.length c0, .slice B0 l.length d0] 25))
  go_enter Try.func10, Try.ntmps10
  go_wp2; repeat (go_quiet (fail); try go_wp2)
  go_loopg [3] (ks.length) (fun gk v3 w' => ∃ i : Int, v3 = .int .i64 i ∧ 0 ≤ i ∧ ks.length - i.toNat ≤ gk ∧ Aside0 (allF (fewF ks) (ks.length - i.toNat) i = r) ∧ Up (w.alloc (.cells #[.slice A0 ks.length c0, .slice B0 l.length d0] 25)) w')
  case atStart => exact ⟨0, rfl, by omega, by omega, HS, (by repeat (with_reducible first | exact HB | apply Up.alloc | apply Up.drewN | apply Up.drew))⟩
  case round =>
    clear HS HB
    obtain ⟨i, rfl, hi, hg, HS, HB1⟩ := hrel
    have HI := Aside0.mk hi
    have hk := Up.blk HB1 (blk_new w _)
    have k0 := (blk_cell hk 0).trans rfl
    have k1 := (blk_cell hk 1).trans rfl
    simp only [List.getElem?_toArray, List.getElem?_cons_zero, List.getElem?_cons_succ] at k0 k1
    have HB : Up w wr := Up.step (by repeat (with_reducible first | exact (Up.refl w) | apply Up.alloc | apply Up.drewN | apply Up.drew)) HB1
    by_cases hlt : i < ks.length
    · have HL := Aside0.mk hlt
      have HS := Aside0.mk ((allF_step hi hlt).symm.trans HS.out)
      obtain ⟨ad, rfl⟩ : ∃ ad, A0 = some ad := by
        cases A0 with
        | none => have := HR.out.1 rfl; omega
        | some ad => exact ⟨ad, rfl⟩
      obtain ⟨hx0, hx1, hx2, hx3⟩ := HR.out.2.2.1 ad rfl
      have hlt2 := decide_eq_true hlt
      replace hi := eq_true hi; replace hlt := eq_true hlt
      by_cases t3 : 90 < ((rd_GunKind ks i).f1.length : Int)
      · have HS := Aside0.mk (show false = r by have h := HS.out; rw [show fewF ks i = false from decide_eq_false (by omega)] at h; simpa using h)
        replace t3 := decide_eq_true t3
        go_wp2; repeat (go_quiet (fail); try go_wp2)
        go_ret
        exact ⟨ret_b HS.out, (by repeat (with_reducible first | exact HB | apply Up.alloc | apply Up.drewN | apply Up.drew))⟩
      · have HS := Aside0.mk (show allF (fewF ks) (ks.length - (i + 1).toNat) (i + 1) = r by have h := HS.out; rw [show fewF ks i = true from decide_eq_true (by omega)] at h; simpa using h)
        replace t3 := decide_eq_false t3
        go_wp2; repeat (go_quiet (fail); try go_wp2)
        go_roundg (gk - 1)
        case measure => have := HL.out; have := HI.out; omega
        case rel => exact ⟨i + 1, (by first | rfl | (simp; done) | (have := HL.out; have := HI.out; have := HM.out; congr 1; unfold wrap64; omega)), by have := HI.out; omega, by have := HL.out; have := HI.out; omega, HS, (by have HU_ := HB1; repeat (with_reducible first | exact HU_ | refine Up.set ?_ (by omega) | apply Up.alloc | apply Up.drewN | apply Up.drew))⟩
    · have HS := Aside0.mk ((allF_end (by omega : (ks.length : Int) ≤ i)).symm.trans HS.out)
      replace hlt := decide_eq_false hlt
      go_wp2; repeat (go_quiet (fail); try go_wp2)
      go_ret
      exact ⟨ret_b HS.out, (by repeat (with_reducible first | exact HB | apply Up.alloc | apply Up.drewN | apply Up.drew))⟩

end Go.Proofs.Ytahcalhpigmbgaa.H
