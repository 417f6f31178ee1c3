import Derived.Test.YtahcalhpigmbgaaProg
import Derived.Below
import Derived.Deep.Draws
import Derived.Deep.AppendLies
import Derived.Maps.AppendAt
import Derived.OwnWalk
import Derived.Laws.BytesArg
import Derived.Laws.MakeOwn
import Derived.Laws.OwnMore
import Derived.Deep.OwnRows
import Derived.Tactics
import Derived.Lib.ConvBytes
import Derived.Laws.Slices
import Derived.WalkKit
import Derived.KernelRfl
import Derived.RowKit3
import Derived.Deep.LoopGhost
import Derived.Deep.QuietTactic
import Derived.BigQuiet
import Derived.WideLaws
import Derived.Deep.DeepCutAuto
import Derived.Deep.CutBlock
import Derived.Deep.RegionHeld3
import Derived.Laws.Rows
import Derived.Lib.AppendStr
import Derived.ArgAppend
import Derived.Laws.IdiomCopy
import Derived.OrdersHeld
import Derived.Laws.BitsLemmas
import Derived.RowKit
import Derived.Deep.RegionLaw
import Derived.Test.YtahcalhpigmbgaaWWords
import Derived.Test.YtahcalhpigmbgaaWLast
import Derived.Test.YtahcalhpigmbgaaWMore
import Derived.Test.YtahcalhpigmbgaaWN
import Derived.Test.YtahcalhpigmbgaaWShare
import Derived.Test.YtahcalhpigmbgaaWGuard
namespace Go.Proofs.Ytahcalhpigmbgaa.H
open Go.RowKit Go.Proofs.YtahcalhpigmbgaaW.PrintWords Go.Proofs.YtahcalhpigmbgaaW.PrintLast Go.Proofs.YtahcalhpigmbgaaW.PrintMore
set_option linter.unusedVariables false
set_option linter.unusedSimpArgs false
/-! own words: a world grown out of another one; universal reads; searches and sums over indices -/
def Up (w W : World) : Prop := Below w.heap.size w W
theorem Up.refl (w : World) : Up w w := Below.refl _ _
theorem Up.alloc {w W : World} (h : Up w W) (o : Obj) : Up w (W.alloc o) := below_alloc h o
theorem Up.drewN {w W : World} (h : Up w W) (n : Nat) : Up w (W.drewN n) := pw_below_drewN h n
theorem Up.drew {w W : World} (h : Up w W) : Up w W.drew := below_drew1 h
theorem Up.step {w W X : World} (h : Up w W) (k : Up W X) : Up w X := below_step h k
theorem Up.set {w W : World} {g j : Nat} {v : Value} (h : Up w W) (hg : w.heap.size ≤ g) : Up w (W.setCell ⟨g, j, none⟩ v) := below_set h hg
theorem Up.size {w W : World} (h : Up w W) : w.heap.size ≤ W.heap.size := below_size h
theorem Up.of_drawn {w W : World} (h : Drawn0 w W) : Up w W := h.below
theorem Up.iAlloc {w W : World} {o : Obj} (h : Up w W) : Up w (W.alloc o) ↔ True := iff_true_intro (h.alloc o)
theorem Up.iDrewN {w W : World} {n : Nat} (h : Up w W) : Up w (W.drewN n) ↔ True := iff_true_intro (h.drewN n)
theorem Up.iDrew {w W : World} (h : Up w W) : Up w W.drew ↔ True := iff_true_intro h.drew
attribute [go_sem] Up.iAlloc Up.iDrewN Up.iDrew
theorem C_up {α : Type} {d : Kd α} {w W : World} {A : Option Addr} {n : Nat} {l : List α} (h : Kd.C d w A n l) (hu : Up w W) : Kd.C d W A n l := Kd.C_below h hu
theorem Up.cells {W w' : World} (h : Up W w') : (∀ b o, b < W.heap.size → w'.cell? ⟨b, o, none⟩ = W.cell? ⟨b, o, none⟩) ∧ (∀ b o, b < W.heap.size → w'.frozen? ⟨b, o, none⟩ = W.frozen? ⟨b, o, none⟩) ∧ W.heap.size ≤ w'.heap.size :=
  ⟨fun b o hb => h.cell (p := ⟨b, o, none⟩) hb, fun b o hb => h.frozen (p := ⟨b, o, none⟩) hb, h.size⟩
theorem Up.blk {W w' : World} {g : Nat} {o : Obj} (h : Up W w') (hW : W.heap[g]? = some o) : w'.heap[g]? = some o := blk_below hW h
theorem blk_2 (w : World) (A B : Obj) : ((w.alloc A).alloc B).heap[w.heap.size + 1]? = some B := by
  have := blk_new (w.alloc A) B
  rwa [show (w.alloc A).heap.size = w.heap.size + 1 by simp] at this
theorem blk_3 (w : World) (A B C : Obj) : (((w.alloc A).alloc B).alloc C).heap[w.heap.size + 1 + 1]? = some C := by
  have := blk_new ((w.alloc A).alloc B) C
  rwa [show ((w.alloc A).alloc B).heap.size = w.heap.size + 1 + 1 by simp] at this
theorem blkput_2 {w : World} {g : Nat} {t : TypeId} {a0 a1 b0 b1 : Value} (h : w.heap[g]? = some (.cells #[a0, a1] t (0, 0))) : ((w.setCell ⟨g, 0, none⟩ b0).setCell ⟨g, 1, none⟩ b1).heap[g]? = some (.cells #[b0, b1] t (0, 0)) := by
  have h := blk_put (cs' := #[b0, a1]) h 0 b0 rfl
  have h := blk_put (cs' := #[b0, b1]) h 1 b1 rfl
  exact h
theorem blkput_3 {w : World} {g : Nat} {t : TypeId} {a0 a1 a2 b0 b1 b2 : Value} (h : w.heap[g]? = some (.cells #[a0, a1, a2] t (0, 0))) : (((w.setCell ⟨g, 0, none⟩ b0).setCell ⟨g, 1, none⟩ b1).setCell ⟨g, 2, none⟩ b2).heap[g]? = some (.cells #[b0, b1, b2] t (0, 0)) := by
  have h := blk_put (cs' := #[b0, a1, a2]) h 0 b0 rfl
  have h := blk_put (cs' := #[b0, b1, a2]) h 1 b1 rfl
  have h := blk_put (cs' := #[b0, b1, b2]) h 2 b2 rfl
  exact h
theorem blkput_4 {w : World} {g : Nat} {t : TypeId} {a0 a1 a2 a3 b0 b1 b2 b3 : Value} (h : w.heap[g]? = some (.cells #[a0, a1, a2, a3] t (0, 0))) : ((((w.setCell ⟨g, 0, none⟩ b0).setCell ⟨g, 1, none⟩ b1).setCell ⟨g, 2, none⟩ b2).setCell ⟨g, 3, none⟩ b3).heap[g]? = some (.cells #[b0, b1, b2, b3] t (0, 0)) := by
  have h := blk_put (cs' := #[b0, a1, a2, a3]) h 0 b0 rfl
  have h := blk_put (cs' := #[b0, b1, a2, a3]) h 1 b1 rfl
  have h := blk_put (cs' := #[b0, b1, b2, a3]) h 2 b2 rfl
  have h := blk_put (cs' := #[b0, b1, b2, b3]) h 3 b3 rfl
  exact h
theorem blkput_5 {w : World} {g : Nat} {t : TypeId} {a0 a1 a2 a3 a4 b0 b1 b2 b3 b4 : Value} (h : w.heap[g]? = some (.cells #[a0, a1, a2, a3, a4] t (0, 0))) : (((((w.setCell ⟨g, 0, none⟩ b0).setCell ⟨g, 1, none⟩ b1).setCell ⟨g, 2, none⟩ b2).setCell ⟨g, 3, none⟩ b3).setCell ⟨g, 4, none⟩ b4).heap[g]? = some (.cells #[b0, b1, b2, b3, b4] t (0, 0)) := by
  have h := blk_put (cs' := #[b0, a1, a2, a3, a4]) h 0 b0 rfl
  have h := blk_put (cs' := #[b0, b1, a2, a3, a4]) h 1 b1 rfl
  have h := blk_put (cs' := #[b0, b1, b2, a3, a4]) h 2 b2 rfl
  have h := blk_put (cs' := #[b0, b1, b2, b3, a4]) h 3 b3 rfl
  have h := blk_put (cs' := #[b0, b1, b2, b3, b4]) h 4 b4 rfl
  exact h
theorem blkput_8 {w : World} {g : Nat} {t : TypeId} {a0 a1 a2 a3 a4 a5 a6 a7 b0 b1 b2 b3 b4 b5 b6 b7 : Value} (h : w.heap[g]? = some (.cells #[a0, a1, a2, a3, a4, a5, a6, a7] t (0, 0))) : ((((((((w.setCell ⟨g, 0, none⟩ b0).setCell ⟨g, 1, none⟩ b1).setCell ⟨g, 2, none⟩ b2).setCell ⟨g, 3, none⟩ b3).setCell ⟨g, 4, none⟩ b4).setCell ⟨g, 5, none⟩ b5).setCell ⟨g, 6, none⟩ b6).setCell ⟨g, 7, none⟩ b7).heap[g]? = some (.cells #[b0, b1, b2, b3, b4, b5, b6, b7] t (0, 0)) := by
  have h := blk_put (cs' := #[b0, a1, a2, a3, a4, a5, a6, a7]) h 0 b0 rfl
  have h := blk_put (cs' := #[b0, b1, a2, a3, a4, a5, a6, a7]) h 1 b1 rfl
  have h := blk_put (cs' := #[b0, b1, b2, a3, a4, a5, a6, a7]) h 2 b2 rfl
  have h := blk_put (cs' := #[b0, b1, b2, b3, a4, a5, a6, a7]) h 3 b3 rfl
  have h := blk_put (cs' := #[b0, b1, b2, b3, b4, a5, a6, a7]) h 4 b4 rfl
  have h := blk_put (cs' := #[b0, b1, b2, b3, b4, b5, a6, a7]) h 5 b5 rfl
  have h := blk_put (cs' := #[b0, b1, b2, b3, b4, b5, b6, a7]) h 6 b6 rfl
  have h := blk_put (cs' := #[b0, b1, b2, b3, b4, b5, b6, b7]) h 7 b7 rfl
  exact h
theorem ret_b {a b : Bool} (h : a = b) : Ending.returned (.bool a) = .returned (.bool b) := by rw [h]
theorem ret_i {k : IntKind} {a b : Int} (h : a = b) : Ending.returned (.int k a) = .returned (.int k b) := by rw [h]
theorem ret_ii {k k' : IntKind} {a b c d : Int} (h : a = b) (g : c = d) : Ending.returned (.tuple #[.int k a, .int k' c]) = .returned (.tuple #[.int k b, .int k' d]) := by rw [h, g]
/-- for all indices from i on: d of them -/
def allF (p : Int → Bool) : Nat → Int → Bool
  | 0, _ => true
  | d + 1, i => p i && allF p d (i + 1)
theorem allF_step {p : Int → Bool} {n : Nat} {i : Int} (h0 : 0 ≤ i) (h : i < n) : allF p (n - i.toNat) i = (p i && allF p (n - (i + 1).toNat) (i + 1)) := by
  rw [show n - i.toNat = (n - (i + 1).toNat) + 1 by omega]; rfl
theorem allF_end {p : Int → Bool} {n : Nat} {i : Int} (h : n ≤ i) : allF p (n - i.toNat) i = true := by
  rw [show n - i.toNat = 0 by omega]; rfl
/-- the first code that is not 0, from index i on -/
def errF (e : Int → Int) : Nat → Int → Int
  | 0, _ => 0
  | d + 1, i => if e i = 0 then errF e d (i + 1) else e i
theorem errF_step {e : Int → Int} {n : Nat} {i : Int} (h0 : 0 ≤ i) (h : i < n) : errF e (n - i.toNat) i = if e i = 0 then errF e (n - (i + 1).toNat) (i + 1) else e i := by
  rw [show n - i.toNat = (n - (i + 1).toNat) + 1 by omega]; rfl
theorem errF_end {e : Int → Int} {n : Nat} {i : Int} (h : n ≤ i) : errF e (n - i.toNat) i = 0 := by
  rw [show n - i.toNat = 0 by omega]; rfl
theorem quiet_1 {P : Program} {f : FuncId} {args : Array Value} {w : World} {n : Nat} {v : Value} (h : Calls P f args (w.drewN (1 + n)) fun e w' => e = .returned v ∧ w' = w.drewN (1 + n)) :
    Calls P f args (w.drewN (1 + n)) fun e w'' => e = .returned v ∧ ∃ m, w'' = w.drewN (1 + m) := h.mono fun _ _ ⟨he, hm⟩ => ⟨he, n, hm⟩
theorem quiet_a {P : Program} {f : FuncId} {args : Array Value} {w : World} {a n : Nat} {v : Value} (h : Calls P f args (w.drewN (a + n)) fun e w' => e = .returned v ∧ w' = w.drewN (a + n)) :
    Calls P f args (w.drewN (a + n)) fun e w'' => e = .returned v ∧ ∃ m, w'' = w.drewN (a + m) := h.mono fun _ _ ⟨he, hm⟩ => ⟨he, n, hm⟩
theorem box_lit {P : Program} {ops : Array Oper} {Q : Exit → Act → World → Prop} {rest : List Oper} {o : Oper} {a : Act} {W : World} (hgd : o.guard = none) {N : Tmp} (_hd : o.dst = some N) {cs : Array Value} {t : TypeId}
    (hrun : (execOp a.eval o).run P W = .ok (.value (.pointer (some ⟨W.heap.size, 0, none⟩))) (W.alloc (.cells cs t (0, 0))))
    (h : wpList P ops Q rest (a.put o.dst (.pointer (some ⟨W.heap.size, 0, none⟩))) (W.alloc (.cells cs t (0, 0)))) : wpList P ops Q (o :: rest) a W := Kd.event_run hgd hrun h
/-- the first index from i on (d of them) of which p holds, or -1 -/
def idxF (p : Int → Bool) : Nat → Int → Int
  | 0, _ => -1
  | d + 1, i => if p i = true then i else idxF p d (i + 1)
theorem idxF_step {p : Int → Bool} {n : Nat} {i : Int} (h0 : 0 ≤ i) (h : i < n) : idxF p (n - i.toNat) i = if p i = true then i else idxF p (n - (i + 1).toNat) (i + 1) := by
  rw [show n - i.toNat = (n - (i + 1).toNat) + 1 by omega]; rfl
theorem idxF_end {p : Int → Bool} {n : Nat} {i : Int} (h : n ≤ i) : idxF p (n - i.toNat) i = -1 := by
  rw [show n - i.toNat = 0 by omega]; rfl

/-! #### struct type 66 -/
structure SPoint where
  f0 : Int
  f1 : Int
def zPoint : SPoint := ⟨(0 : Int), (0 : Int)⟩
def kPoint : Kd SPoint := Kd.iso (Kd.pair (Kd.int .i64) (Kd.int .i64)) (fun x : SPoint => (x.f0, x.f1))
theorem kPoint_heap : Kd.Heap kPoint := Kd.heap_iso _ (Kd.heap_pair (Kd.heap_int .i64) (Kd.heap_int .i64))
theorem kPoint_open {w : World} {x : SPoint} {cs : List Value} (h : kPoint.K w x cs) : cs = [.int .i64 x.f0, .int .i64 x.f1] := by
  obtain ⟨_, _, rfl, rfl, rfl⟩ := h
  exact rfl
theorem kPoint_openM {w : World} {base : Nat} {ok : Nat → Prop} {x : SPoint} {cs : List Value} (h : kPoint.M w base ok x cs) : cs = [.int .i64 x.f0, .int .i64 x.f1] := by
  obtain ⟨_, _, rfl, rfl, rfl⟩ := h
  exact rfl
theorem kPoint_mk (w : World) (x : SPoint)  : kPoint.K w x [.int .i64 x.f0, .int .i64 x.f1] := ⟨[.int .i64 x.f0], [.int .i64 x.f1], rfl, rfl, rfl⟩
theorem kPoint_mkM (w : World) (base : Nat) (ok : Nat → Prop) (x : SPoint)  : kPoint.M w base ok x [.int .i64 x.f0, .int .i64 x.f1] := ⟨[.int .i64 x.f0], [.int .i64 x.f1], rfl, rfl, rfl⟩
theorem kPoint_mkF (W : World) (ok : Nat → Prop) (x : SPoint) : Kd.FK kPoint W ok x [.int .i64 x.f0, .int .i64 x.f1] := fun W2 _ => kPoint_mk W2 x
def rd_Point (xs : List SPoint) (i : Int) : SPoint := xs.getD i.toNat zPoint
theorem at_Point {w : World} {A : Option Addr} {n : Nat} {xs : List SPoint} (h : Kd.C kPoint w A n xs) (i : Int) (h0 : 0 ≤ i) (h1 : i < n) : ∃ ad , A = some ad ∧ w.cell? (ad.add (i.toNat * 2)) = some (.int .i64 (rd_Point xs i).f0) ∧ w.cell? ⟨(ad.add (i.toNat * 2)).block, (ad.add (i.toNat * 2)).off + 1, none⟩ = some (.int .i64 (rd_Point xs i).f1) := by
  obtain ⟨ad, c, e, _, hK, hc0⟩ := Kd.C_get h zPoint i h0 h1
  have hc : ∀ j u, c[j]? = some u → w.cell? (ad.add (i.toNat * 2 + j)) = some u := hc0
  obtain rfl := kPoint_open hK
  exact ⟨ad, e, hc 0 _ rfl, by rw [← add_field _ _ 1 (by omega)]; exact hc 1 _ rfl⟩

def rd_L2 (xs : List (List SPoint)) (i : Int) : (List SPoint) := xs.getD i.toNat ([] : List SPoint)
theorem at_L2 {w : World} {A : Option Addr} {n : Nat} {xs : List (List SPoint)} (h : Kd.C (Kd.slice 66 kPoint) w A n xs) (i : Int) (h0 : 0 ≤ i) (h1 : i < n) : ∃ ad A0 c0, A = some ad ∧ w.cell? (ad.add i.toNat) = some (.slice A0 (rd_L2 xs i).length c0) ∧ (rd_L2 xs i).length ≤ c0 ∧ kPoint.C w A0 (rd_L2 xs i).length (rd_L2 xs i) := by
  obtain ⟨ad, c, e, _, hK, hc0⟩ := Kd.C_get h ([] : List SPoint) i h0 h1
  have hc : ∀ j u, c[j]? = some u → w.cell? (ad.add (i.toNat * 1 + j)) = some u := hc0
  obtain ⟨A0, c0, rfl, l0, g0⟩ := hK
  exact ⟨ad, A0, c0, e, by have hq := hc 0 _ rfl; rwa [Nat.mul_one, Nat.add_zero] at hq, l0, g0⟩

/-! #### struct type 39 -/
structure SGunKind where
  f0 : Int
  f1 : (List SPoint)
  f2 : Int
  f3 : Int
def zGunKind : SGunKind := ⟨(0 : Int), ([] : List SPoint), (0 : Int), (0 : Int)⟩
def kGunKind : Kd SGunKind := Kd.iso (Kd.pair (Kd.int .i64) (Kd.pair (Kd.slice 66 kPoint) (Kd.pair (Kd.int .i64) (Kd.int .i64)))) (fun x : SGunKind => (x.f0, x.f1, x.f2, x.f3))
theorem kGunKind_heap : Kd.Heap kGunKind := Kd.heap_iso _ (Kd.heap_pair (Kd.heap_int .i64) (Kd.heap_pair (Kd.heap_slice 66 kPoint_heap) (Kd.heap_pair (Kd.heap_int .i64) (Kd.heap_int .i64))))
theorem kGunKind_open {w : World} {x : SGunKind} {cs : List Value} (h : kGunKind.K w x cs) : ∃ A1 c1, cs = [.int .i64 x.f0, .slice A1 x.f1.length c1, .int .i64 x.f2, .int .i64 x.f3] ∧ x.f1.length ≤ c1 ∧ kPoint.C w A1 x.f1.length x.f1 := by
  obtain ⟨_, _, rfl, rfl, ⟨_, _, rfl, ⟨A1, c1, rfl, l1, g1⟩, ⟨_, _, rfl, rfl, rfl⟩⟩⟩ := h
  exact ⟨A1, c1, rfl, l1, g1⟩
theorem kGunKind_openM {w : World} {base : Nat} {ok : Nat → Prop} {x : SGunKind} {cs : List Value} (h : kGunKind.M w base ok x cs) : ∃ v1, cs = [.int .i64 x.f0, v1, .int .i64 x.f2, .int .i64 x.f3] ∧ kPoint.R 66 w base ok v1 x.f1 := by
  obtain ⟨_, _, rfl, rfl, ⟨_, _, rfl, ⟨v1, rfl, g1⟩, ⟨_, _, rfl, rfl, rfl⟩⟩⟩ := h
  exact ⟨v1, rfl, g1⟩
theorem kGunKind_mk (w : World) (x : SGunKind) {A1 : Option Addr} {c1 : Nat} (l1 : x.f1.length ≤ c1) (g1 : kPoint.C w A1 x.f1.length x.f1) : kGunKind.K w x [.int .i64 x.f0, .slice A1 x.f1.length c1, .int .i64 x.f2, .int .i64 x.f3] := ⟨[.int .i64 x.f0], [.slice A1 x.f1.length c1, .int .i64 x.f2, .int .i64 x.f3], rfl, rfl, ⟨[.slice A1 x.f1.length c1], [.int .i64 x.f2, .int .i64 x.f3], rfl, ⟨A1, c1, rfl, l1, g1⟩, ⟨[.int .i64 x.f2], [.int .i64 x.f3], rfl, rfl, rfl⟩⟩⟩
theorem kGunKind_mkM (w : World) (base : Nat) (ok : Nat → Prop) (x : SGunKind) {v1 : Value} (g1 : kPoint.R 66 w base ok v1 x.f1) : kGunKind.M w base ok x [.int .i64 x.f0, v1, .int .i64 x.f2, .int .i64 x.f3] := ⟨[.int .i64 x.f0], [v1, .int .i64 x.f2, .int .i64 x.f3], rfl, rfl, ⟨[v1], [.int .i64 x.f2, .int .i64 x.f3], rfl, ⟨v1, rfl, g1⟩, ⟨[.int .i64 x.f2], [.int .i64 x.f3], rfl, rfl, rfl⟩⟩⟩
theorem kGunKind_openF {W : World} {ok : Nat → Prop} {x : SGunKind} {cs : List Value} (h : Kd.FK kGunKind W ok x cs) : ∃ A1 c1, cs = [.int .i64 x.f0, .slice A1 x.f1.length c1, .int .i64 x.f2, .int .i64 x.f3] ∧ x.f1.length ≤ c1 ∧ Kd.F kPoint W ok A1 x.f1.length x.f1 := by
  obtain ⟨A1, c1, rfl, l1, _⟩ := kGunKind_open (Kd.FK_now h)
  exact ⟨A1, c1, rfl, l1, (fun W' hW => by obtain ⟨A1_, c1_, he, l1_, g1_⟩ := kGunKind_open (h W' hW); injection (Option.some.inj (show some (Value.slice A1 x.f1.length c1) = some (Value.slice A1_ x.f1.length c1_) from congrArg (fun l => l[1]?) he)) with ha_ _ _; rw [ha_]; exact g1_)⟩
theorem kGunKind_mkF (W : World) (ok : Nat → Prop) (x : SGunKind) {A1 : Option Addr} {c1 : Nat} (l1 : x.f1.length ≤ c1) (g1 : Kd.F kPoint W ok A1 x.f1.length x.f1) : Kd.FK kGunKind W ok x [.int .i64 x.f0, .slice A1 x.f1.length c1, .int .i64 x.f2, .int .i64 x.f3] := fun W2 hW => kGunKind_mk W2 x l1 (g1 W2 hW)
def rd_GunKind (xs : List SGunKind) (i : Int) : SGunKind := xs.getD i.toNat zGunKind
theorem at_GunKind {w : World} {A : Option Addr} {n : Nat} {xs : List SGunKind} (h : Kd.C kGunKind w A n xs) (i : Int) (h0 : 0 ≤ i) (h1 : i < n) : ∃ ad A1 c1, A = some ad ∧ w.cell? (ad.add (i.toNat * 4)) = some (.int .i64 (rd_GunKind xs i).f0) ∧ w.cell? ⟨(ad.add (i.toNat * 4)).block, (ad.add (i.toNat * 4)).off + 1, none⟩ = some (.slice A1 (rd_GunKind xs i).f1.length c1) ∧ w.cell? ⟨(ad.add (i.toNat * 4)).block, (ad.add (i.toNat * 4)).off + 2, none⟩ = some (.int .i64 (rd_GunKind xs i).f2) ∧ w.cell? ⟨(ad.add (i.toNat * 4)).block, (ad.add (i.toNat * 4)).off + 3, none⟩ = some (.int .i64 (rd_GunKind xs i).f3) ∧ (rd_GunKind xs i).f1.length ≤ c1 ∧ kPoint.C w A1 (rd_GunKind xs i).f1.length (rd_GunKind xs i).f1 := by
  obtain ⟨ad, c, e, _, hK, hc0⟩ := Kd.C_get h zGunKind i h0 h1
  have hc : ∀ j u, c[j]? = some u → w.cell? (ad.add (i.toNat * 4 + j)) = some u := hc0
  obtain ⟨A1, c1, rfl, l1, g1⟩ := kGunKind_open hK
  exact ⟨ad, A1, c1, e, hc 0 _ rfl, by rw [← add_field _ _ 1 (by omega)]; exact hc 1 _ rfl, by rw [← add_field _ _ 2 (by omega)]; exact hc 2 _ rfl, by rw [← add_field _ _ 3 (by omega)]; exact hc 3 _ rfl, l1, g1⟩

/-! #### struct type 31 -/
structure SGun where
  f0 : Int
  f1 : Int
  f2 : Int
  f3 : Int
  f4 : Int
  f5 : Int
  f6 : Int
  f7 : Int
def zGun : SGun := ⟨(0 : Int), (0 : Int), (0 : Int), (0 : Int), (0 : Int), (0 : Int), (0 : Int), (0 : Int)⟩
def kGun : Kd SGun := Kd.iso (Kd.pair (Kd.int .i64) (Kd.pair (Kd.int .i64) (Kd.pair (Kd.int .i64) (Kd.pair (Kd.int .i64) (Kd.pair (Kd.int .i64) (Kd.pair (Kd.int .i64) (Kd.pair (Kd.int .i64) (Kd.int .i64)))))))) (fun x : SGun => (x.f0, x.f1, x.f2, x.f3, x.f4, x.f5, x.f6, x.f7))
theorem kGun_heap : Kd.Heap kGun := Kd.heap_iso _ (Kd.heap_pair (Kd.heap_int .i64) (Kd.heap_pair (Kd.heap_int .i64) (Kd.heap_pair (Kd.heap_int .i64) (Kd.heap_pair (Kd.heap_int .i64) (Kd.heap_pair (Kd.heap_int .i64) (Kd.heap_pair (Kd.heap_int .i64) (Kd.heap_pair (Kd.heap_int .i64) (Kd.heap_int .i64))))))))
theorem kGun_open {w : World} {x : SGun} {cs : List Value} (h : kGun.K w x cs) : cs = [.int .i64 x.f0, .int .i64 x.f1, .int .i64 x.f2, .int .i64 x.f3, .int .i64 x.f4, .int .i64 x.f5, .int .i64 x.f6, .int .i64 x.f7] := by
  obtain ⟨_, _, rfl, rfl, ⟨_, _, rfl, rfl, ⟨_, _, rfl, rfl, ⟨_, _, rfl, rfl, ⟨_, _, rfl, rfl, ⟨_, _, rfl, rfl, ⟨_, _, rfl, rfl, rfl⟩⟩⟩⟩⟩⟩⟩ := h
  exact rfl
theorem kGun_openM {w : World} {base : Nat} {ok : Nat → Prop} {x : SGun} {cs : List Value} (h : kGun.M w base ok x cs) : cs = [.int .i64 x.f0, .int .i64 x.f1, .int .i64 x.f2, .int .i64 x.f3, .int .i64 x.f4, .int .i64 x.f5, .int .i64 x.f6, .int .i64 x.f7] := by
  obtain ⟨_, _, rfl, rfl, ⟨_, _, rfl, rfl, ⟨_, _, rfl, rfl, ⟨_, _, rfl, rfl, ⟨_, _, rfl, rfl, ⟨_, _, rfl, rfl, ⟨_, _, rfl, rfl, rfl⟩⟩⟩⟩⟩⟩⟩ := h
  exact rfl
theorem kGun_mk (w : World) (x : SGun)  : kGun.K w x [.int .i64 x.f0, .int .i64 x.f1, .int .i64 x.f2, .int .i64 x.f3, .int .i64 x.f4, .int .i64 x.f5, .int .i64 x.f6, .int .i64 x.f7] := ⟨[.int .i64 x.f0], [.int .i64 x.f1, .int .i64 x.f2, .int .i64 x.f3, .int .i64 x.f4, .int .i64 x.f5, .int .i64 x.f6, .int .i64 x.f7], rfl, rfl, ⟨[.int .i64 x.f1], [.int .i64 x.f2, .int .i64 x.f3, .int .i64 x.f4, .int .i64 x.f5, .int .i64 x.f6, .int .i64 x.f7], rfl, rfl, ⟨[.int .i64 x.f2], [.int .i64 x.f3, .int .i64 x.f4, .int .i64 x.f5, .int .i64 x.f6, .int .i64 x.f7], rfl, rfl, ⟨[.int .i64 x.f3], [.int .i64 x.f4, .int .i64 x.f5, .int .i64 x.f6, .int .i64 x.f7], rfl, rfl, ⟨[.int .i64 x.f4], [.int .i64 x.f5, .int .i64 x.f6, .int .i64 x.f7], rfl, rfl, ⟨[.int .i64 x.f5], [.int .i64 x.f6, .int .i64 x.f7], rfl, rfl, ⟨[.int .i64 x.f6], [.int .i64 x.f7], rfl, rfl, rfl⟩⟩⟩⟩⟩⟩⟩
theorem kGun_mkM (w : World) (base : Nat) (ok : Nat → Prop) (x : SGun)  : kGun.M w base ok x [.int .i64 x.f0, .int .i64 x.f1, .int .i64 x.f2, .int .i64 x.f3, .int .i64 x.f4, .int .i64 x.f5, .int .i64 x.f6, .int .i64 x.f7] := ⟨[.int .i64 x.f0], [.int .i64 x.f1, .int .i64 x.f2, .int .i64 x.f3, .int .i64 x.f4, .int .i64 x.f5, .int .i64 x.f6, .int .i64 x.f7], rfl, rfl, ⟨[.int .i64 x.f1], [.int .i64 x.f2, .int .i64 x.f3, .int .i64 x.f4, .int .i64 x.f5, .int .i64 x.f6, .int .i64 x.f7], rfl, rfl, ⟨[.int .i64 x.f2], [.int .i64 x.f3, .int .i64 x.f4, .int .i64 x.f5, .int .i64 x.f6, .int .i64 x.f7], rfl, rfl, ⟨[.int .i64 x.f3], [.int .i64 x.f4, .int .i64 x.f5, .int .i64 x.f6, .int .i64 x.f7], rfl, rfl, ⟨[.int .i64 x.f4], [.int .i64 x.f5, .int .i64 x.f6, .int .i64 x.f7], rfl, rfl, ⟨[.int .i64 x.f5], [.int .i64 x.f6, .int .i64 x.f7], rfl, rfl, ⟨[.int .i64 x.f6], [.int .i64 x.f7], rfl, rfl, rfl⟩⟩⟩⟩⟩⟩⟩
theorem kGun_mkF (W : World) (ok : Nat → Prop) (x : SGun) : Kd.FK kGun W ok x [.int .i64 x.f0, .int .i64 x.f1, .int .i64 x.f2, .int .i64 x.f3, .int .i64 x.f4, .int .i64 x.f5, .int .i64 x.f6, .int .i64 x.f7] := fun W2 _ => kGun_mk W2 x
def rd_Gun (xs : List SGun) (i : Int) : SGun := xs.getD i.toNat zGun
theorem at_Gun {w : World} {A : Option Addr} {n : Nat} {xs : List SGun} (h : Kd.C kGun w A n xs) (i : Int) (h0 : 0 ≤ i) (h1 : i < n) : ∃ ad , A = some ad ∧ w.cell? (ad.add (i.toNat * 8)) = some (.int .i64 (rd_Gun xs i).f0) ∧ w.cell? ⟨(ad.add (i.toNat * 8)).block, (ad.add (i.toNat * 8)).off + 1, none⟩ = some (.int .i64 (rd_Gun xs i).f1) ∧ w.cell? ⟨(ad.add (i.toNat * 8)).block, (ad.add (i.toNat * 8)).off + 2, none⟩ = some (.int .i64 (rd_Gun xs i).f2) ∧ w.cell? ⟨(ad.add (i.toNat * 8)).block, (ad.add (i.toNat * 8)).off + 3, none⟩ = some (.int .i64 (rd_Gun xs i).f3) ∧ w.cell? ⟨(ad.add (i.toNat * 8)).block, (ad.add (i.toNat * 8)).off + 4, none⟩ = some (.int .i64 (rd_Gun xs i).f4) ∧ w.cell? ⟨(ad.add (i.toNat * 8)).block, (ad.add (i.toNat * 8)).off + 5, none⟩ = some (.int .i64 (rd_Gun xs i).f5) ∧ w.cell? ⟨(ad.add (i.toNat * 8)).block, (ad.add (i.toNat * 8)).off + 6, none⟩ = some (.int .i64 (rd_Gun xs i).f6) ∧ w.cell? ⟨(ad.add (i.toNat * 8)).block, (ad.add (i.toNat * 8)).off + 7, none⟩ = some (.int .i64 (rd_Gun xs i).f7) := by
  obtain ⟨ad, c, e, _, hK, hc0⟩ := Kd.C_get h zGun i h0 h1
  have hc : ∀ j u, c[j]? = some u → w.cell? (ad.add (i.toNat * 8 + j)) = some u := hc0
  obtain rfl := kGun_open hK
  exact ⟨ad, e, hc 0 _ rfl, by rw [← add_field _ _ 1 (by omega)]; exact hc 1 _ rfl, by rw [← add_field _ _ 2 (by omega)]; exact hc 2 _ rfl, by rw [← add_field _ _ 3 (by omega)]; exact hc 3 _ rfl, by rw [← add_field _ _ 4 (by omega)]; exact hc 4 _ rfl, by rw [← add_field _ _ 5 (by omega)]; exact hc 5 _ rfl, by rw [← add_field _ _ 6 (by omega)]; exact hc 6 _ rfl, by rw [← add_field _ _ 7 (by omega)]; exact hc 7 _ rfl⟩

/-! #### struct type 53 -/
structure SDraw where
  f0 : Int
  f1 : Int
def zDraw : SDraw := ⟨(0 : Int), (0 : Int)⟩
def kDraw : Kd SDraw := Kd.iso (Kd.pair (Kd.int .i64) (Kd.int .i64)) (fun x : SDraw => (x.f0, x.f1))
theorem kDraw_heap : Kd.Heap kDraw := Kd.heap_iso _ (Kd.heap_pair (Kd.heap_int .i64) (Kd.heap_int .i64))
theorem kDraw_open {w : World} {x : SDraw} {cs : List Value} (h : kDraw.K w x cs) : cs = [.int .i64 x.f0, .int .i64 x.f1] := by
  obtain ⟨_, _, rfl, rfl, rfl⟩ := h
  exact rfl
theorem kDraw_openM {w : World} {base : Nat} {ok : Nat → Prop} {x : SDraw} {cs : List Value} (h : kDraw.M w base ok x cs) : cs = [.int .i64 x.f0, .int .i64 x.f1] := by
  obtain ⟨_, _, rfl, rfl, rfl⟩ := h
  exact rfl
theorem kDraw_mk (w : World) (x : SDraw)  : kDraw.K w x [.int .i64 x.f0, .int .i64 x.f1] := ⟨[.int .i64 x.f0], [.int .i64 x.f1], rfl, rfl, rfl⟩
theorem kDraw_mkM (w : World) (base : Nat) (ok : Nat → Prop) (x : SDraw)  : kDraw.M w base ok x [.int .i64 x.f0, .int .i64 x.f1] := ⟨[.int .i64 x.f0], [.int .i64 x.f1], rfl, rfl, rfl⟩
theorem kDraw_mkF (W : World) (ok : Nat → Prop) (x : SDraw) : Kd.FK kDraw W ok x [.int .i64 x.f0, .int .i64 x.f1] := fun W2 _ => kDraw_mk W2 x
def rd_Draw (xs : List SDraw) (i : Int) : SDraw := xs.getD i.toNat zDraw
theorem at_Draw {w : World} {A : Option Addr} {n : Nat} {xs : List SDraw} (h : Kd.C kDraw w A n xs) (i : Int) (h0 : 0 ≤ i) (h1 : i < n) : ∃ ad , A = some ad ∧ w.cell? (ad.add (i.toNat * 2)) = some (.int .i64 (rd_Draw xs i).f0) ∧ w.cell? ⟨(ad.add (i.toNat * 2)).block, (ad.add (i.toNat * 2)).off + 1, none⟩ = some (.int .i64 (rd_Draw xs i).f1) := by
  obtain ⟨ad, c, e, _, hK, hc0⟩ := Kd.C_get h zDraw i h0 h1
  have hc : ∀ j u, c[j]? = some u → w.cell? (ad.add (i.toNat * 2 + j)) = some u := hc0
  obtain rfl := kDraw_open hK
  exact ⟨ad, e, hc 0 _ rfl, by rw [← add_field _ _ 1 (by omega)]; exact hc 1 _ rfl⟩

/-! #### struct type 49 -/
structure SLOp where
  f0 : Int
  f1 : Int
def zLOp : SLOp := ⟨(0 : Int), (0 : Int)⟩
def kLOp : Kd SLOp := Kd.iso (Kd.pair (Kd.int .i64) (Kd.int .i64)) (fun x : SLOp => (x.f0, x.f1))
theorem kLOp_heap : Kd.Heap kLOp := Kd.heap_iso _ (Kd.heap_pair (Kd.heap_int .i64) (Kd.heap_int .i64))
theorem kLOp_open {w : World} {x : SLOp} {cs : List Value} (h : kLOp.K w x cs) : cs = [.int .i64 x.f0, .int .i64 x.f1] := by
  obtain ⟨_, _, rfl, rfl, rfl⟩ := h
  exact rfl
theorem kLOp_openM {w : World} {base : Nat} {ok : Nat → Prop} {x : SLOp} {cs : List Value} (h : kLOp.M w base ok x cs) : cs = [.int .i64 x.f0, .int .i64 x.f1] := by
  obtain ⟨_, _, rfl, rfl, rfl⟩ := h
  exact rfl
theorem kLOp_mk (w : World) (x : SLOp)  : kLOp.K w x [.int .i64 x.f0, .int .i64 x.f1] := ⟨[.int .i64 x.f0], [.int .i64 x.f1], rfl, rfl, rfl⟩
theorem kLOp_mkM (w : World) (base : Nat) (ok : Nat → Prop) (x : SLOp)  : kLOp.M w base ok x [.int .i64 x.f0, .int .i64 x.f1] := ⟨[.int .i64 x.f0], [.int .i64 x.f1], rfl, rfl, rfl⟩
theorem kLOp_mkF (W : World) (ok : Nat → Prop) (x : SLOp) : Kd.FK kLOp W ok x [.int .i64 x.f0, .int .i64 x.f1] := fun W2 _ => kLOp_mk W2 x
def rd_LOp (xs : List SLOp) (i : Int) : SLOp := xs.getD i.toNat zLOp
theorem at_LOp {w : World} {A : Option Addr} {n : Nat} {xs : List SLOp} (h : Kd.C kLOp w A n xs) (i : Int) (h0 : 0 ≤ i) (h1 : i < n) : ∃ ad , A = some ad ∧ w.cell? (ad.add (i.toNat * 2)) = some (.int .i64 (rd_LOp xs i).f0) ∧ w.cell? ⟨(ad.add (i.toNat * 2)).block, (ad.add (i.toNat * 2)).off + 1, none⟩ = some (.int .i64 (rd_LOp xs i).f1) := by
  obtain ⟨ad, c, e, _, hK, hc0⟩ := Kd.C_get h zLOp i h0 h1
  have hc : ∀ j u, c[j]? = some u → w.cell? (ad.add (i.toNat * 2 + j)) = some u := hc0
  obtain rfl := kLOp_open hK
  exact ⟨ad, e, hc 0 _ rfl, by rw [← add_field _ _ 1 (by omega)]; exact hc 1 _ rfl⟩

theorem rx_Point {w : World} {ad : Addr} {n : Nat} {l : List SPoint} (h : Kd.C kPoint w (some ad) n l) :
    (∀ (W : World) (i : Int), Up w W → 0 ≤ i → i < n → W.cell? (ad.add (i.toNat * 2)) = some (.int .i64 (rd_Point l i).f0)) ∧
    (∀ (W : World) (i : Int), Up w W → 0 ≤ i → i < n → W.cell? ⟨(ad.add (i.toNat * 2)).block, (ad.add (i.toNat * 2)).off + 1, none⟩ = some (.int .i64 (rd_Point l i).f1)) := by
  refine ⟨?_, ?_⟩
  · intro W i hu h0 h1
    obtain ⟨_, e, x0, x1⟩ := at_Point h i h0 h1
    cases e
    exact (hu.cell (World.block_lt_of_cell? w _ x0)).trans x0
  · intro W i hu h0 h1
    obtain ⟨_, e, x0, x1⟩ := at_Point h i h0 h1
    cases e
    exact (hu.cell (World.block_lt_of_cell? w _ x1)).trans x1
theorem rx0_Point {w : World} {ad : Addr} {n : Nat} {l : List SPoint} (h : Kd.C kPoint w (some ad) n l) (hn : 0 < n) :
    (∀ (W : World), Up w W → W.cell? ad = some (.int .i64 (rd_Point l 0).f0)) ∧
    (∀ (W : World), Up w W → W.cell? ⟨ad.block, ad.off + 1, none⟩ = some (.int .i64 (rd_Point l 0).f1)) := by
  obtain ⟨x0, x1⟩ := rx_Point h
  refine ⟨fun W hu => by simpa [Addr.add_zero'] using x0 W 0 hu (by omega) (by omega), fun W hu => by simpa [Addr.add_zero'] using x1 W 0 hu (by omega) (by omega)⟩
theorem rx_GunKind {w : World} {ad : Addr} {n : Nat} {l : List SGunKind} (h : Kd.C kGunKind w (some ad) n l) :
    ∃ (A1 : Int → Option Addr) (C1 : Int → Nat), (∀ (W : World) (i : Int), Up w W → 0 ≤ i → i < n → W.cell? (ad.add (i.toNat * 4)) = some (.int .i64 (rd_GunKind l i).f0)) ∧
    (∀ (W : World) (i : Int), Up w W → 0 ≤ i → i < n → W.cell? ⟨(ad.add (i.toNat * 4)).block, (ad.add (i.toNat * 4)).off + 1, none⟩ = some (.slice (A1 i) (rd_GunKind l i).f1.length (C1 i))) ∧
    (∀ (W : World) (i : Int), Up w W → 0 ≤ i → i < n → W.cell? ⟨(ad.add (i.toNat * 4)).block, (ad.add (i.toNat * 4)).off + 2, none⟩ = some (.int .i64 (rd_GunKind l i).f2)) ∧
    (∀ (W : World) (i : Int), Up w W → 0 ≤ i → i < n → W.cell? ⟨(ad.add (i.toNat * 4)).block, (ad.add (i.toNat * 4)).off + 3, none⟩ = some (.int .i64 (rd_GunKind l i).f3)) ∧
    (∀ (i : Int), 0 ≤ i → i < n → (rd_GunKind l i).f1.length ≤ C1 i ∧ Kd.C kPoint w (A1 i) (rd_GunKind l i).f1.length (rd_GunKind l i).f1) := by
  have H : ∀ i : Int, ∃ (A1 : Option Addr) (C1 : Nat), 0 ≤ i → i < n → w.cell? (ad.add (i.toNat * 4)) = some (.int .i64 (rd_GunKind l i).f0) ∧ w.cell? ⟨(ad.add (i.toNat * 4)).block, (ad.add (i.toNat * 4)).off + 1, none⟩ = some (.slice A1 (rd_GunKind l i).f1.length C1) ∧ w.cell? ⟨(ad.add (i.toNat * 4)).block, (ad.add (i.toNat * 4)).off + 2, none⟩ = some (.int .i64 (rd_GunKind l i).f2) ∧ w.cell? ⟨(ad.add (i.toNat * 4)).block, (ad.add (i.toNat * 4)).off + 3, none⟩ = some (.int .i64 (rd_GunKind l i).f3) ∧ (rd_GunKind l i).f1.length ≤ C1 ∧ Kd.C kPoint w A1 (rd_GunKind l i).f1.length (rd_GunKind l i).f1 := by
    intro i
    by_cases hi : 0 ≤ i ∧ i < n
    · obtain ⟨_, a1, c1, e, x0, x1, x2, x3, l1, i1⟩ := at_GunKind h i hi.1 hi.2
      cases e
      exact ⟨a1, c1, fun _ _ => ⟨x0, x1, x2, x3, l1, i1⟩⟩
    · exact ⟨none, 0, fun h0 h1 => absurd ⟨h0, h1⟩ hi⟩
  obtain ⟨A1, H⟩ := Classical.axiomOfChoice H
  obtain ⟨C1, H⟩ := Classical.axiomOfChoice H
  refine ⟨A1, C1, ?_, ?_, ?_, ?_, ?_⟩
  · intro W i hu h0 h1
    obtain ⟨x0, x1, x2, x3, l1, i1⟩ := H i h0 h1
    exact (hu.cell (World.block_lt_of_cell? w _ x0)).trans x0
  · intro W i hu h0 h1
    obtain ⟨x0, x1, x2, x3, l1, i1⟩ := H i h0 h1
    exact (hu.cell (World.block_lt_of_cell? w _ x1)).trans x1
  · intro W i hu h0 h1
    obtain ⟨x0, x1, x2, x3, l1, i1⟩ := H i h0 h1
    exact (hu.cell (World.block_lt_of_cell? w _ x2)).trans x2
  · intro W i hu h0 h1
    obtain ⟨x0, x1, x2, x3, l1, i1⟩ := H i h0 h1
    exact (hu.cell (World.block_lt_of_cell? w _ x3)).trans x3
  · intro i h0 h1
    obtain ⟨x0, x1, x2, x3, l1, i1⟩ := H i h0 h1
    exact ⟨l1, i1⟩
theorem rx_Gun {w : World} {ad : Addr} {n : Nat} {l : List SGun} (h : Kd.C kGun w (some ad) n l) :
    (∀ (W : World) (i : Int), Up w W → 0 ≤ i → i < n → W.cell? (ad.add (i.toNat * 8)) = some (.int .i64 (rd_Gun l i).f0)) ∧
    (∀ (W : World) (i : Int), Up w W → 0 ≤ i → i < n → W.cell? ⟨(ad.add (i.toNat * 8)).block, (ad.add (i.toNat * 8)).off + 1, none⟩ = some (.int .i64 (rd_Gun l i).f1)) ∧
    (∀ (W : World) (i : Int), Up w W → 0 ≤ i → i < n → W.cell? ⟨(ad.add (i.toNat * 8)).block, (ad.add (i.toNat * 8)).off + 2, none⟩ = some (.int .i64 (rd_Gun l i).f2)) ∧
    (∀ (W : World) (i : Int), Up w W → 0 ≤ i → i < n → W.cell? ⟨(ad.add (i.toNat * 8)).block, (ad.add (i.toNat * 8)).off + 3, none⟩ = some (.int .i64 (rd_Gun l i).f3)) ∧
    (∀ (W : World) (i : Int), Up w W → 0 ≤ i → i < n → W.cell? ⟨(ad.add (i.toNat * 8)).block, (ad.add (i.toNat * 8)).off + 4, none⟩ = some (.int .i64 (rd_Gun l i).f4)) ∧
    (∀ (W : World) (i : Int), Up w W → 0 ≤ i → i < n → W.cell? ⟨(ad.add (i.toNat * 8)).block, (ad.add (i.toNat * 8)).off + 5, none⟩ = some (.int .i64 (rd_Gun l i).f5)) ∧
    (∀ (W : World) (i : Int), Up w W → 0 ≤ i → i < n → W.cell? ⟨(ad.add (i.toNat * 8)).block, (ad.add (i.toNat * 8)).off + 6, none⟩ = some (.int .i64 (rd_Gun l i).f6)) ∧
    (∀ (W : World) (i : Int), Up w W → 0 ≤ i → i < n → W.cell? ⟨(ad.add (i.toNat * 8)).block, (ad.add (i.toNat * 8)).off + 7, none⟩ = some (.int .i64 (rd_Gun l i).f7)) := by
  refine ⟨?_, ?_, ?_, ?_, ?_, ?_, ?_, ?_⟩
  · intro W i hu h0 h1
    obtain ⟨_, e, x0, x1, x2, x3, x4, x5, x6, x7⟩ := at_Gun h i h0 h1
    cases e
    exact (hu.cell (World.block_lt_of_cell? w _ x0)).trans x0
  · intro W i hu h0 h1
    obtain ⟨_, e, x0, x1, x2, x3, x4, x5, x6, x7⟩ := at_Gun h i h0 h1
    cases e
    exact (hu.cell (World.block_lt_of_cell? w _ x1)).trans x1
  · intro W i hu h0 h1
    obtain ⟨_, e, x0, x1, x2, x3, x4, x5, x6, x7⟩ := at_Gun h i h0 h1
    cases e
    exact (hu.cell (World.block_lt_of_cell? w _ x2)).trans x2
  · intro W i hu h0 h1
    obtain ⟨_, e, x0, x1, x2, x3, x4, x5, x6, x7⟩ := at_Gun h i h0 h1
    cases e
    exact (hu.cell (World.block_lt_of_cell? w _ x3)).trans x3
  · intro W i hu h0 h1
    obtain ⟨_, e, x0, x1, x2, x3, x4, x5, x6, x7⟩ := at_Gun h i h0 h1
    cases e
    exact (hu.cell (World.block_lt_of_cell? w _ x4)).trans x4
  · intro W i hu h0 h1
    obtain ⟨_, e, x0, x1, x2, x3, x4, x5, x6, x7⟩ := at_Gun h i h0 h1
    cases e
    exact (hu.cell (World.block_lt_of_cell? w _ x5)).trans x5
  · intro W i hu h0 h1
    obtain ⟨_, e, x0, x1, x2, x3, x4, x5, x6, x7⟩ := at_Gun h i h0 h1
    cases e
    exact (hu.cell (World.block_lt_of_cell? w _ x6)).trans x6
  · intro W i hu h0 h1
    obtain ⟨_, e, x0, x1, x2, x3, x4, x5, x6, x7⟩ := at_Gun h i h0 h1
    cases e
    exact (hu.cell (World.block_lt_of_cell? w _ x7)).trans x7
theorem rx0_Gun {w : World} {ad : Addr} {n : Nat} {l : List SGun} (h : Kd.C kGun w (some ad) n l) (hn : 0 < n) :
    (∀ (W : World), Up w W → W.cell? ad = some (.int .i64 (rd_Gun l 0).f0)) ∧
    (∀ (W : World), Up w W → W.cell? ⟨ad.block, ad.off + 1, none⟩ = some (.int .i64 (rd_Gun l 0).f1)) ∧
    (∀ (W : World), Up w W → W.cell? ⟨ad.block, ad.off + 2, none⟩ = some (.int .i64 (rd_Gun l 0).f2)) ∧
    (∀ (W : World), Up w W → W.cell? ⟨ad.block, ad.off + 3, none⟩ = some (.int .i64 (rd_Gun l 0).f3)) ∧
    (∀ (W : World), Up w W → W.cell? ⟨ad.block, ad.off + 4, none⟩ = some (.int .i64 (rd_Gun l 0).f4)) ∧
    (∀ (W : World), Up w W → W.cell? ⟨ad.block, ad.off + 5, none⟩ = some (.int .i64 (rd_Gun l 0).f5)) ∧
    (∀ (W : World), Up w W → W.cell? ⟨ad.block, ad.off + 6, none⟩ = some (.int .i64 (rd_Gun l 0).f6)) ∧
    (∀ (W : World), Up w W → W.cell? ⟨ad.block, ad.off + 7, none⟩ = some (.int .i64 (rd_Gun l 0).f7)) := by
  obtain ⟨x0, x1, x2, x3, x4, x5, x6, x7⟩ := rx_Gun h
  refine ⟨fun W hu => by simpa [Addr.add_zero'] using x0 W 0 hu (by omega) (by omega), fun W hu => by simpa [Addr.add_zero'] using x1 W 0 hu (by omega) (by omega), fun W hu => by simpa [Addr.add_zero'] using x2 W 0 hu (by omega) (by omega), fun W hu => by simpa [Addr.add_zero'] using x3 W 0 hu (by omega) (by omega), fun W hu => by simpa [Addr.add_zero'] using x4 W 0 hu (by omega) (by omega), fun W hu => by simpa [Addr.add_zero'] using x5 W 0 hu (by omega) (by omega), fun W hu => by simpa [Addr.add_zero'] using x6 W 0 hu (by omega) (by omega), fun W hu => by simpa [Addr.add_zero'] using x7 W 0 hu (by omega) (by omega)⟩
theorem rx_Draw {w : World} {ad : Addr} {n : Nat} {l : List SDraw} (h : Kd.C kDraw w (some ad) n l) :
    (∀ (W : World) (i : Int), Up w W → 0 ≤ i → i < n → W.cell? (ad.add (i.toNat * 2)) = some (.int .i64 (rd_Draw l i).f0)) ∧
    (∀ (W : World) (i : Int), Up w W → 0 ≤ i → i < n → W.cell? ⟨(ad.add (i.toNat * 2)).block, (ad.add (i.toNat * 2)).off + 1, none⟩ = some (.int .i64 (rd_Draw l i).f1)) := by
  refine ⟨?_, ?_⟩
  · intro W i hu h0 h1
    obtain ⟨_, e, x0, x1⟩ := at_Draw h i h0 h1
    cases e
    exact (hu.cell (World.block_lt_of_cell? w _ x0)).trans x0
  · intro W i hu h0 h1
    obtain ⟨_, e, x0, x1⟩ := at_Draw h i h0 h1
    cases e
    exact (hu.cell (World.block_lt_of_cell? w _ x1)).trans x1
theorem rx0_Draw {w : World} {ad : Addr} {n : Nat} {l : List SDraw} (h : Kd.C kDraw w (some ad) n l) (hn : 0 < n) :
    (∀ (W : World), Up w W → W.cell? ad = some (.int .i64 (rd_Draw l 0).f0)) ∧
    (∀ (W : World), Up w W → W.cell? ⟨ad.block, ad.off + 1, none⟩ = some (.int .i64 (rd_Draw l 0).f1)) := by
  obtain ⟨x0, x1⟩ := rx_Draw h
  refine ⟨fun W hu => by simpa [Addr.add_zero'] using x0 W 0 hu (by omega) (by omega), fun W hu => by simpa [Addr.add_zero'] using x1 W 0 hu (by omega) (by omega)⟩
theorem rx_LOp {w : World} {ad : Addr} {n : Nat} {l : List SLOp} (h : Kd.C kLOp w (some ad) n l) :
    (∀ (W : World) (i : Int), Up w W → 0 ≤ i → i < n → W.cell? (ad.add (i.toNat * 2)) = some (.int .i64 (rd_LOp l i).f0)) ∧
    (∀ (W : World) (i : Int), Up w W → 0 ≤ i → i < n → W.cell? ⟨(ad.add (i.toNat * 2)).block, (ad.add (i.toNat * 2)).off + 1, none⟩ = some (.int .i64 (rd_LOp l i).f1)) := by
  refine ⟨?_, ?_⟩
  · intro W i hu h0 h1
    obtain ⟨_, e, x0, x1⟩ := at_LOp h i h0 h1
    cases e
    exact (hu.cell (World.block_lt_of_cell? w _ x0)).trans x0
  · intro W i hu h0 h1
    obtain ⟨_, e, x0, x1⟩ := at_LOp h i h0 h1
    cases e
    exact (hu.cell (World.block_lt_of_cell? w _ x1)).trans x1
theorem rx0_LOp {w : World} {ad : Addr} {n : Nat} {l : List SLOp} (h : Kd.C kLOp w (some ad) n l) (hn : 0 < n) :
    (∀ (W : World), Up w W → W.cell? ad = some (.int .i64 (rd_LOp l 0).f0)) ∧
    (∀ (W : World), Up w W → W.cell? ⟨ad.block, ad.off + 1, none⟩ = some (.int .i64 (rd_LOp l 0).f1)) := by
  obtain ⟨x0, x1⟩ := rx_LOp h
  refine ⟨fun W hu => by simpa [Addr.add_zero'] using x0 W 0 hu (by omega) (by omega), fun W hu => by simpa [Addr.add_zero'] using x1 W 0 hu (by omega) (by omega)⟩
end Go.Proofs.Ytahcalhpigmbgaa.H
