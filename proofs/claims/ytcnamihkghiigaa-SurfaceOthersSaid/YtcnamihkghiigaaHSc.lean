import Derived.Test.YtcnamihkghiigaaHK
import Derived.Test.YtcnamihkghiigaaHSy
import Derived.Lib.SliceRun
namespace Go.Proofs.Ytcnamihkghiigaa.H
open Go.RowKit Go.Proofs.YtcnamihkghiigaaW.PrintWords Go.Proofs.YtcnamihkghiigaaW.PrintLast Go.Proofs.YtcnamihkghiigaaW.PrintMore
set_option linter.unusedVariables false
set_option linter.unusedSimpArgs false
/-! slices.Clone, with -/
theorem infoSurface : (Try.prog.info? 32).map (fun i => (i.zero, i.size, i.bytes)) = some (some (.agg #[(.int .i64 0), (.int .i64 0), (.int .i64 0)]), 3, 24) := by kernel_rfl
theorem R_lit0 {α : Type} (d : Kd α) (e : Nat) (W : World) (base : Nat) (hb : base ≤ W.heap.size) : Kd.R d e (W.alloc (.cells #[] e)) base (fun _ => True) (.slice (some ⟨W.heap.size, 0, none⟩) 0 0) [] :=
  ⟨fun _ _ => trivial, OwnRow.lit W base (Reps.none _ _) hb (by simp)⟩
set_option maxHeartbeats 4000000 in
theorem CloneSurface_c (A0 : Option Addr) (c0 : Nat) (l : List SSurface) (w : World) (hn : l.length ≤ 1000) (hr0 : Kd.C kSurface w A0 l.length l) :
    Calls Try.prog 25 #[.slice A0 l.length c0] w fun e w' => ∃ v, e = .returned v ∧ Kd.R kSurface 32 w' w.heap.size (fun _ => True) v l ∧ Up w w' := by
  have hu := Try.underlying32
  have hu3 := Try.underlying22
  have q22 : ∀ (w : World) (a : Option Addr) (n c n' c' : Nat), (binOp .eql 22 (.slice a n c) (.slice none n' c')).run Try.prog w = .ok (.bool a.isNone) w := fun w a n c n' c' => Lib.run_eql_slice_nil w _ _ _ _ _ _ _ Try.underlying22
  have HB := Up.refl w
  have HR := Aside0.mk hr0
  have HN := Aside0.mk hn
  go_enter Try.func25, Try.ntmps25
  cases A0 with
  | none =>
    have h0 : l = [] := by
      by_cases e : l.length = 0
      · exact List.length_eq_zero_iff.mp e
      · obtain ⟨ad, c, e2, _⟩ := Kd.C_get hr0 zSurface 0 (by omega) (by omega); cases e2
    subst h0
    clear hr0 hn
    go_wp2
    go_ret
    exact ⟨_, rfl, Kd.R_nil _ _ _ _ _, HB⟩
  | some ad =>
    clear hr0 hn
    go_wp2_with ((with_reducible refine gate_dst (N := 7) rfl ?_); refine Kd.R_append_rows kSurface (Rr := kSurface.K w) (w0 := w) w.heap.size rfl (.tmp 5) (.tmp 6) 22 32 _ 24 rfl Try.underlying22 infoSurface rfl (by decide) (by decide) _ [] l (some ad) l.length c0 (fun _ => True) (fun _ => False) rfl rfl (R_lit0 kSurface _ w w.heap.size (Nat.le_refl _)) ?aR ?aM (fun _ h => h.elim) (fun _ _ => trivial) ?aB ?aS ?aL ?_; (case aR => exact ReadsRow.imp_ HR.out ((Up.refl w).alloc _) (fun _ _ h => h)); (case aM => intro x cs hx; obtain rfl := kSurface_open hx; exact kSurface_mkM _ _ _ _); (case aB => exact (Up.refl w).alloc _); (case aS => simp); (case aL => have := HN.out; simp; omega); intro v1 w2 ho hb hg hat)
    go_ret
    exact ⟨_, rfl, ho, hb⟩

end Go.Proofs.Ytcnamihkghiigaa.H
