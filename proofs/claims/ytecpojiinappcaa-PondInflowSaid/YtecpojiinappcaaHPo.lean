import Derived.Test.YtecpojiinappcaaHK
import Derived.Test.YtecpojiinappcaaHPh
import Derived.Test.YtecpojiinappcaaHPt2
import Derived.Lib.SliceRun
namespace Go.Proofs.Ytecpojiinappcaa.H
open Go.RowKit Go.Proofs.YtecpojiinappcaaW.PrintWords Go.Proofs.YtecpojiinappcaaW.PrintLast Go.Proofs.YtecpojiinappcaaW.PrintMore
set_option linter.unusedVariables false
set_option linter.unusedSimpArgs false
/-! slices.Clone of ponds; a row of ponds of one's own, written in place -/
theorem infoPond : (Try.prog.info? 38).map (fun i => (i.zero, i.size, i.bytes)) = some (some (.agg #[(.int .i64 0), (.int .i64 0), (.int .i64 0), (.int .i64 0), (.int .i64 0)]), 5, 40) := by kernel_rfl
theorem R_lit0 {α : Type} (d : Kd α) (e : Nat) (W : World) (base : Nat) (hb : base ≤ W.heap.size) : Kd.R d e (W.alloc (.cells #[] e)) base (fun _ => True) (.slice (some ⟨W.heap.size, 0, none⟩) 0 0) [] :=
  ⟨fun _ _ => trivial, OwnRow.lit W base (Reps.none _ _) hb (by simp)⟩
set_option maxHeartbeats 4000000 in
theorem ClonePond_c (A0 : Option Addr) (c0 : Nat) (l : List SPond) (w : World) (hn : l.length ≤ 1000) (hr0 : Kd.C kPond w A0 l.length l) :
    Calls Try.prog 27 #[.slice A0 l.length c0] w fun e w' => ∃ v, e = .returned v ∧ Kd.R kPond 38 w' w.heap.size (fun _ => True) v l ∧ Up w w' := by
  have hu := Try.underlying38
  have hu3 := Try.underlying22
  have q22 : ∀ (w : World) (a : Option Addr) (n c n' c' : Nat), (binOp .eql 22 (.slice a n c) (.slice none n' c')).run Try.prog w = .ok (.bool a.isNone) w := fun w a n c n' c' => Lib.run_eql_slice_nil w _ _ _ _ _ _ _ Try.underlying22
  have HB := Up.refl w
  have HR := Aside0.mk hr0
  have HN := Aside0.mk hn
  go_enter Try.func27, Try.ntmps27
  cases A0 with
  | none =>
    have h0 : l = [] := by
      by_cases e : l.length = 0
      · exact List.length_eq_zero_iff.mp e
      · obtain ⟨ad, c, e2, _⟩ := Kd.C_get hr0 zPond 0 (by omega) (by omega); cases e2
    subst h0
    clear hr0 hn
    go_wp2
    go_ret
    exact ⟨_, rfl, Kd.R_nil _ _ _ _ _, HB⟩
  | some ad =>
    clear hr0 hn
    go_wp2_with ((with_reducible refine gate_dst (N := 7) rfl ?_); refine Kd.R_append_rows kPond (Rr := kPond.K w) (w0 := w) w.heap.size rfl (.tmp 5) (.tmp 6) 22 38 _ 40 rfl Try.underlying22 infoPond rfl (by decide) (by decide) _ [] l (some ad) l.length c0 (fun _ => True) (fun _ => False) rfl rfl (R_lit0 kPond _ w w.heap.size (Nat.le_refl _)) ?aR ?aM (fun _ h => h.elim) (fun _ _ => trivial) ?aB ?aS ?aL ?_; (case aR => exact ReadsRow.imp_ HR.out ((Up.refl w).alloc _) (fun _ _ h => h)); (case aM => intro x cs hx; obtain rfl := kPond_open hx; exact kPond_mkM _ _ _ _); (case aB => exact (Up.refl w).alloc _); (case aS => simp); (case aL => have := HN.out; simp; omega); intro v1 w2 ho hb hg hat)
    go_ret
    exact ⟨_, rfl, ho, hb⟩
theorem rowPond {e base g n cap : Nat} {ok : Nat → Prop} {W : World} {xs : List SPond} (h : Kd.R kPond e W base ok (.slice (some ⟨g, 0, none⟩) n cap) xs) {i : Int} (h0 : 0 ≤ i) (h1 : i < n) :
    W.cell? ⟨g, i.toNat * 5, none⟩ = some (.int .i64 (rd_Pond xs i).f0) ∧ W.cell? ⟨g, i.toNat * 5 + 1, none⟩ = some (.int .i64 (rd_Pond xs i).f1) ∧ W.cell? ⟨g, i.toNat * 5 + 2, none⟩ = some (.int .i64 (rd_Pond xs i).f2) ∧ W.cell? ⟨g, i.toNat * 5 + 3, none⟩ = some (.int .i64 (rd_Pond xs i).f3) ∧ W.cell? ⟨g, i.toNat * 5 + 4, none⟩ = some (.int .i64 (rd_Pond xs i).f4) ∧ ∀ j, W.frozen? ⟨g, i.toNat * 5 + j, none⟩ = false := by
  obtain ⟨c, hl, hM, hc, hf⟩ := Kd.R_elem h zPond i h0 h1
  obtain rfl := kPond_openM hM
  exact ⟨hc 0 _ rfl, hc 1 _ rfl, hc 2 _ rfl, hc 3 _ rfl, hc 4 _ rfl, hf⟩
theorem setPond1 {e base g n cap : Nat} {ok : Nat → Prop} {W : World} {xs : List SPond} (h : Kd.R kPond e W base ok (.slice (some ⟨g, 0, none⟩) n cap) xs) {i : Int} (h0 : 0 ≤ i) (h1 : i < n) (v : Int) :
    Kd.R kPond e (W.setCell ⟨g, i.toNat * 5 + 1, none⟩ (.int .i64 v)) base ok (.slice (some ⟨g, 0, none⟩) n cap) (xs.set i.toNat ⟨(rd_Pond xs i).f0, v, (rd_Pond xs i).f2, (rd_Pond xs i).f3, (rd_Pond xs i).f4⟩) := by
  obtain ⟨c, hl, hM, hc, hf⟩ := Kd.R_elem h zPond i h0 h1
  obtain rfl := kPond_openM hM
  exact (Kd.R_seg h i h0 h1 (okp := fun _ => False) (seg := [.int .i64 v]) (j := 1) hl hc (by show 1 + 1 ≤ 5; omega) (kPond_mkM _ _ _ ⟨(rd_Pond xs i).f0, v, (rd_Pond xs i).f2, (rd_Pond xs i).f3, (rd_Pond xs i).f4⟩) (fun _ h => h.elim)).1
abbrev RP (W : World) (base : Nat) (v : Value) (xs : List SPond) : Prop := Kd.R kPond 38 W base (fun _ => True) v xs

end Go.Proofs.Ytecpojiinappcaa.H
