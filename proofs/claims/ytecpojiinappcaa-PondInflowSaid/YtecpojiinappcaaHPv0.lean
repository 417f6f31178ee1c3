import Derived.Test.YtecpojiinappcaaHK
import Derived.Test.YtecpojiinappcaaHFf
import Derived.Test.YtecpojiinappcaaWRepsOne
import Derived.ArgAppend
namespace Go.Proofs.Ytecpojiinappcaa.H
open Go.RowKit Go.Proofs.YtecpojiinappcaaW.PrintWords Go.Proofs.YtecpojiinappcaaW.PrintLast Go.Proofs.YtecpojiinappcaaW.PrintMore
set_option linter.unusedVariables false
set_option linter.unusedSimpArgs false
/-! alive of ponds: the sample, an append that grows -/
theorem C_litP {α : Type} {d : Kd α} {W : World} {g e : Nat} {xs : List α} {inner : List Value} (hb : W.heap[g]? = some (.cells inner.toArray e (0, 0))) (hr : Reps (d.K W) d.sz xs inner) (hm : xs.length ≤ 9223372036854775807) : Kd.C d W (some ⟨g, 0, none⟩) xs.length xs := by
  refine ⟨rfl, hm, fun _ => ⟨_, rfl, fun j p hj => ⟨_, ?_, hr.2 j p hj, fun i u hu => ?_⟩⟩⟩
  · have h1 := hr.1
    have h2 : j < xs.length := (List.getElem?_eq_some_iff.1 hj).1
    have h3 : j * d.sz + d.sz ≤ xs.length * d.sz := by rw [← Nat.succ_mul]; exact Nat.mul_le_mul_right _ h2
    rw [List.length_take, List.length_drop, h1]; omega
  · have h4 : inner[j * d.sz + i]? = some u := by
      rw [List.getElem?_take] at hu
      split at hu
      · rwa [List.getElem?_drop] at hu
      · cases hu
    have := (blk_cell hb (j * d.sz + i)).trans (by simpa using h4)
    rw [show Addr.add ⟨g, 0, none⟩ (j * d.sz + i) = ⟨g, j * d.sz + i, none⟩ by unfold Addr.add; split <;> simp_all]
    exact this
abbrev pA : SPond := ⟨1, 1000, 200, 5000, 3600⟩
abbrev pB : SPond := ⟨2, 500, 100, 600, 7200⟩
abbrev ponL : List SPond := [pA, pB]
abbrev ponC : Array Value := #[.int .i64 1, .int .i64 1000, .int .i64 200, .int .i64 5000, .int .i64 3600, .int .i64 2, .int .i64 500, .int .i64 100, .int .i64 600, .int .i64 7200]
theorem C_ponL {W : World} {g : Nat} (h : W.heap[g]? = some (.cells ponC 38 (0, 0))) : Kd.C kPond W (some ⟨g, 0, none⟩) 2 ponL :=
  C_litP (inner := ponC.toList) h (Reps.c5 (kPond_mk W pA) (Reps.c5 (kPond_mk W pB) (Reps.none _ _))) (by decide)
set_option maxHeartbeats 4000000 in
theorem sample_c (w : World) : Calls Try.prog 23 #[] w fun e w' => ∃ g, e = .returned (.slice (some ⟨g, 0, none⟩) 2 2) ∧ w'.heap[g]? = some (.cells ponC 38 (0, 0)) ∧ Up w w' := by
  have hu := Try.underlying38
  have HB := Up.refl w
  go_enter Try.func23, Try.ntmps23
  go_wp2
  go_ret
  exact ⟨_, rfl, blk_new w _, HB.alloc _⟩
theorem appP {W : World} {ops : Array Oper} {rest : List Oper} {o : Oper} {a : Act} {Q : Exit → Act → World → Prop} (hw : Region.wanted o (yielded ops a.tmps) = true) (s x : Operand) (hop : o.op = .call { callee := .builtin .append, args := #[s, x], argTypes := #[22, 22] })
    (g h : Nat) (hs : a.eval s = .slice (some ⟨g, 0, none⟩) 2 2) (hx : a.eval x = .slice (some ⟨h, 0, none⟩) 1 1) (hg : W.heap[g]? = some (.cells ponC 38 (0, 0)))
    (hh : W.heap[h]? = some (.cells #[.int .i64 1, .int .i64 1000, .int .i64 200, .int .i64 5000, .int .i64 3600] 38 (0, 0)))
    (H : ∀ A c w', Kd.C kPond w' A 3 [pA, pB, pA] → 3 ≤ c → Up W w' → wpList Try.prog ops Q rest (a.put o.dst (.slice A 3 c)) w') : wpList Try.prog ops Q (o :: rest) a W := by
  obtain ⟨i0, hi, hzz⟩ := Option.map_eq_some_iff.1 infoPond2
  simp only [Prod.mk.injEq] at hzz
  obtain ⟨hz0, hz1, hz2⟩ := hzz
  obtain ⟨v', w', hrun, r1, r2⟩ := run_append_arg_grows (P := Try.prog) W 22 o.type 38 i0 _ 5 40 Try.underlying22 hi hz0 hz1 hz2 rfl (by decide) ⟨g, 0, none⟩ 2 2 ponC.toList rfl
    (fun j u hj => by rw [show Addr.add ⟨g, 0, none⟩ j = ⟨g, j, none⟩ by unfold Addr.add; split <;> simp_all]; exact (blk_cell hg j).trans (by simpa using hj))
    ⟨h, 0, none⟩ 1 1 [.int .i64 1, .int .i64 1000, .int .i64 200, .int .i64 5000, .int .i64 3600] rfl
    (fun j u hj => by rw [show Addr.add ⟨h, 0, none⟩ j = ⟨h, j, none⟩ by unfold Addr.add; split <;> simp_all]; exact (blk_cell hh j).trans (by simpa using hj))
    (by decide) (by decide) (by decide)
  have hR : Kd.R kPond 38 w' W.heap.size (fun _ => True) v' [pA, pB, pA] := ⟨fun _ _ => trivial, _, r1, Reps.c5 (kPond_mkM _ _ _ pA) (Reps.c5 (kPond_mkM _ _ _ pB) (Reps.c5 (kPond_mkM _ _ _ pA) (Reps.none _ _)))⟩
  obtain ⟨A, c, rfl, hle, hC⟩ := Kd.R_reads hR
  show (if Region.wanted o (yielded ops a.tmps) = true then _ ∨ _ else _)
  rw [if_pos hw]
  left
  unfold Oper.wp
  simp [execOp, hop, resolve, invoke, builtin, hs, hx, hrun, Result.andThen]
  exact H _ _ _ hC hle (gr_none_up r2)
theorem pv0 : takeS ponL 300 = ([⟨1, 800, 200, 5000, 3600⟩, ⟨2, 400, 100, 600, 7200⟩], 0) := by kernel_rfl
theorem pv1 : takeS ponL 1 = ([⟨1, 999, 200, 5000, 3600⟩, ⟨2, 500, 100, 600, 7200⟩], 0) := by kernel_rfl
theorem pv2 : takeS ponL 1201 = ([], 9) := by kernel_rfl
theorem pv3 : takeS ponL (-1) = ([], 2) := by kernel_rfl
theorem pv4 : fillS ponL 30 = ([⟨1, 1030, 200, 5000, 3600⟩, ⟨2, 560, 100, 600, 7200⟩], 90, 0) := by kernel_rfl
theorem pv5 : fillS ponL 100 = ([⟨1, 1100, 200, 5000, 3600⟩, ⟨2, 600, 100, 600, 7200⟩], 200, 0) := by kernel_rfl
theorem pv6 : ponR ponL = 0 := by kernel_rfl
theorem pv7 : ponR [pA, pB, pA] = 7 := by kernel_rfl
theorem pv8 : spareS ponL = 1200 := by kernel_rfl
theorem pv9 : totalS ponL = 1500 := by kernel_rfl
theorem ponL_ok : PB ponL := ponR_ok pv6
theorem Take_n (n : Nat) (A0 : Option Addr) (c0 : Nat) (l : List SPond) (x : Int) (w : World) (R : List SPond) (e : Int) (hn : l.length = n) (h : takeS l x = (R, e)) (hok : PB l) (hr0 : Kd.C kPond w A0 n l) :
    Calls Try.prog 17 #[.slice A0 n c0, .int .i64 x] w fun en w' => ∃ v, en = .returned (.tuple #[v, .int .i64 e]) ∧ RP w' w.heap.size v R ∧ Up w w' := by
  subst hn; exact Take_c A0 c0 l x w R e h hok hr0
theorem Fill_n (n : Nat) (A0 : Option Addr) (c0 : Nat) (l : List SPond) (t : Int) (w : World) (R : List SPond) (m e : Int) (hn : l.length = n) (h : fillS l t = (R, m, e)) (hok : PB l) (hr0 : Kd.C kPond w A0 n l) :
    Calls Try.prog 20 #[.slice A0 n c0, .int .i64 t] w fun en w' => ∃ v, en = .returned (.tuple #[v, .int .i64 m, .int .i64 e]) ∧ RP w' w.heap.size v R ∧ Up w w' := by
  subst hn; exact Fill_c A0 c0 l t w R m e h hok hr0
theorem Right_n (n : Nat) (A0 : Option Addr) (c0 : Nat) (l : List SPond) (w : World) (r : Int) (hn : l.length = n) (h : ponR l = r) (hr0 : Kd.C kPond w A0 n l) (hc0 : n ≤ c0) :
    Calls Try.prog 10 #[.slice A0 n c0] w fun e w' => e = .returned (.int .i64 r) ∧ Up w w' := by
  subst hn; exact PonRight_c A0 c0 l w r h hr0 hc0
theorem Spare_n (n : Nat) (A0 : Option Addr) (c0 : Nat) (l : List SPond) (w : World) (r : Int) (hn : l.length = n) (h : spareS l = r) (hok : PB l) (hr0 : Kd.C kPond w A0 n l) :
    Calls Try.prog 13 #[.slice A0 n c0] w fun e w' => e = .returned (.int .i64 r) ∧ Up w w' := by
  subst hn; exact Spare_c A0 c0 l w r h hok hr0
theorem Total_n (n : Nat) (A0 : Option Addr) (c0 : Nat) (l : List SPond) (w : World) (r : Int) (hn : l.length = n) (h : totalS l = r) (hok : PB l) (hr0 : Kd.C kPond w A0 n l) :
    Calls Try.prog 15 #[.slice A0 n c0] w fun e w' => e = .returned (.int .i64 r) ∧ Up w w' := by
  subst hn; exact Total_c A0 c0 l w r h hok hr0
theorem RP_C {W : World} {base n c : Nat} {A : Option Addr} {xs : List SPond} (h : RP W base (.slice A n c) xs) : Kd.C kPond W A n xs := by
  obtain ⟨e, _, h⟩ := Kd.R_reads' h
  rw [e]; exact h
theorem wl_on {ops : Array Oper} {rest : List Oper} {o : Oper} {a : Act} {Q : Exit → Act → World → Prop} {W W1 : World} {v : Value} (hw : Region.wanted o (yielded ops a.tmps) = true) (hrun : (execOp a.eval o).run Try.prog W = .ok (.value v) W1) (h : wpList Try.prog ops Q rest (a.put o.dst v) W1) : wpList Try.prog ops Q (o :: rest) a W := by
  show (if Region.wanted o (yielded ops a.tmps) = true then _ ∨ _ else _)
  rw [if_pos hw]
  left
  unfold Oper.wp
  rw [hrun]
  exact h

end Go.Proofs.Ytecpojiinappcaa.H
