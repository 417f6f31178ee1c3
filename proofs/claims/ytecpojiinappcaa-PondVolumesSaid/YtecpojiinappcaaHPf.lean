import Derived.Test.YtecpojiinappcaaHK
import Derived.Test.YtecpojiinappcaaHPl
namespace Go.Proofs.Ytecpojiinappcaa.H
open Go.RowKit Go.Proofs.YtecpojiinappcaaW.PrintWords Go.Proofs.YtecpojiinappcaaW.PrintLast Go.Proofs.YtecpojiinappcaaW.PrintMore
set_option linter.unusedVariables false
set_option linter.unusedSimpArgs false
/-! split.fill of ints, by whatever closure; the closure that fills the rests -/
theorem gr_trans {w W X : World} {r : Option Nat} (h : w.grownBy W r) (k : W.grownBy X r) : w.grownBy X r :=
  ⟨k.os.trans h.os, k.tape.trans h.tape, k.output.trans h.output, Nat.le_trans h.size k.size, fun i hi hn => (k.block i (by have := h.size; omega) hn).trans (h.block i hi hn)⟩
theorem gr_up {w W : World} {r : Option Nat} (h : Up w W) : w.grownBy W r := grown_of_below h r
theorem set_size (w : World) (p : Addr) (u : Value) : (w.setCell p u).heap.size = w.heap.size := by
  show (w.heap.modify _ _).size = _
  rw [Array.size_modify]
theorem gr_set (w : World) (g j : Nat) (u : Value) : w.grownBy (w.setCell ⟨g, j, none⟩ u) (some g) :=
  ⟨rfl, rfl, rfl, Nat.le_of_eq (set_size _ _ _).symm, fun i _ hn => Below.heap_setCell w ⟨g, j, none⟩ u i (fun e => hn (by rw [e]))⟩
theorem gr_far {w W : World} {r : Option Nat} (h : w.grownBy W r) {b : Nat} (hb : w.heap.size ≤ b) (j : Nat) (u : Value) : w.grownBy (W.setCell ⟨b, j, none⟩ u) r :=
  ⟨h.os, h.tape, h.output, by rw [set_size]; exact h.size, fun i hi hn => (Below.heap_setCell W ⟨b, j, none⟩ u i (show i ≠ b by omega)).trans (h.block i hi hn)⟩
theorem gr_below {w0 w W : World} {g : Nat} (h0 : Up w0 w) (h : w.grownBy W (some g)) (hg : w0.heap.size ≤ g) : Up w0 W := h0.grown h h0.size (fun k hk => by cases hk; exact hg)
set_option maxHeartbeats 8000000 in
theorem fill_c (f : Nat) (lb : Array Value) (q : Int → Int) (n : Nat) (gX : Nat) (I : Int → World → Prop) (w : World) (hn0 : 0 < n) (hn : n ≤ 64) (hgX : gX < w.heap.size)
    (eg : ∀ args w, (callFunc f args).run Try.prog w = .ok (.enter f args) w)
    (hI0 : ∀ W, Up w W → I 0 W)
    (hIs : ∀ (i : Int) (W : World) (b j : Nat) (u : Value), I i W → w.heap.size ≤ b → I i (W.setCell ⟨b, j, none⟩ u))
    (hf : ∀ (W : World) (i : Int), I i W → 0 ≤ i → i < n → Calls Try.prog f (#[.int .i64 i] ++ lb) W fun e W' => e = .returned (.int .i64 (q i)) ∧ I (i + 1) W' ∧ W.grownBy W' (some gX)) :
    Calls Try.prog 37 #[.int .i64 n, .func (.func f) #[] lb] w fun e w' => ∃ v, e = .returned v ∧ RI w' w.heap.size v (genL q n) ∧ I n w' ∧ w.grownBy w' (some gX) := by
  have HI0 := Aside0.mk hI0
  have HIs := Aside0.mk hIs
  have HF := Aside0.mk hf
  have HX := Aside0.mk (And.intro hgX (And.intro hn0 hn))
  clear hI0 hIs hf hgX hn0 hn
  go_enter Try.func37, Try.ntmps37
  go_wp2_with ((with_reducible refine gate_dst (N := 8) rfl ?_); refine Kd.R_make (Kd.int .i64) (w0 := w) w.heap.size 3 rfl (N := 8) rfl 40 (.tmp 7) (.tmp 7) rfl (n : Int) rfl rfl Try.underlying40 (.int .i64 0) 8 infoInt rfl (by decide) (by decide) 0 (ok := fun _ => True) (okp := fun _ => True) rfl (fun _ _ => trivial) trivial (by omega) ?aL (Below.refl _ _) (Nat.le_refl _) ?_; (case aL => have := HX.out; simp; omega); intro v1 w1 hR hb hg hat; rw [Int.toNat_natCast] at hR; obtain ⟨g, cap, rfl, hg1⟩ := RI_form hR (by have := HX.out; simp; omega); rw [List.length_replicate] at hR ⊢)
  have HR := Aside0.mk hR
  have HG := Aside0.mk hg1
  have HB := Aside0.mk (show Up w w1 from hb)
  clear hR hg1 hb hg hat
  go_wp2
  go_loopg [6, 11] n (fun gk _ v11 w' => ∃ (i : Int) (ys : List Int), v11 = .int .i64 i ∧ 0 ≤ i ∧ i ≤ n ∧ n - i.toNat ≤ gk ∧ Aside0 (ys.length = n ∧ ∀ j : Int, 0 ≤ j → j < i → rd_Int ys j = q j) ∧ Aside0 (RI w' w.heap.size (.slice (some ⟨g, 0, none⟩) n cap) ys) ∧ Aside0 (I i w') ∧ Aside0 (w.grownBy w' (some gX)))
  case atStart => exact ⟨0, List.replicate n 0, rfl, by omega, by omega, by omega, ⟨by simp, fun j a b => by omega⟩, HR, ⟨HI0.out _ HB.out⟩, ⟨gr_up HB.out⟩⟩
  case round =>
    clear HR HB
    obtain ⟨i, ys, rfl, hi, hin, hg, HY, HR, HII, HW⟩ := hrel
    have HI := Aside0.mk hi
    have HIN := Aside0.mk hin
    have HGK := Aside0.mk hg
    clear hin hg
    by_cases hlt : i < n
    · have HL := Aside0.mk hlt
      have hlt2 := decide_eq_true hlt
      replace hi := eq_true hi; replace hlt := eq_true hlt
      go_wp2_with fail
      (with_reducible refine (HF.out _ i HII.out HI.out HL.out).mono ?_)
      rintro e w2 ⟨rfl, hI2, hg2⟩
      have HII := Aside0.mk hI2
      have HR := Aside0.mk (RI_grown HR.out hg2 (fun k hk e => by have := Kd.R_base HR.out k hk; have := HX.out; cases e; omega))
      have HW := Aside0.mk (gr_trans HW.out hg2)
      clear hI2 hg2
      obtain ⟨c, fz⟩ := RI_cell HR.out HI.out HL.out
      go_wp2
      go_roundg (gk - 1)
      case measure => have := HL.out; have := HI.out; have := HGK.out; omega
      case rel => exact ⟨i + 1, ys.set i.toNat (q i), (by first | rfl | (simp; done) | (have := HL.out; have := HI.out; have := HX.out; congr 1; unfold wrap64; omega)), by have := HI.out; omega, by have := HL.out; omega, by have := HL.out; have := HI.out; have := HGK.out; omega, ⟨by rw [List.length_set]; exact HY.out.1, fun j a b => by
          rw [rdI_set HI.out (by have := HL.out; have := HY.out.1; omega) a]
          by_cases e : j = i
          · rw [if_pos e, e]
          · rw [if_neg e]; exact HY.out.2 j a (by omega)⟩, ⟨RI_set HR.out i (q i)⟩, ⟨HIs.out _ _ _ _ _ HII.out HG.out⟩, ⟨gr_far HW.out HG.out _ _⟩⟩
    · obtain rfl : i = n := by have := HIN.out; omega
      have HE := Aside0.mk (show ys = genL q n from extI (HY.out.1.trans (genL_len _ _).symm) fun j a b => by rw [rdI_gen a (by have := HY.out.1; omega)]; exact HY.out.2 j a (by have := HY.out.1; omega))
      replace hlt := decide_eq_false hlt
      go_wp2
      go_ret
      exact ⟨_, rfl, by rw [← HE.out]; exact HR.out, HII.out, HW.out⟩

end Go.Proofs.Ytecpojiinappcaa.H
