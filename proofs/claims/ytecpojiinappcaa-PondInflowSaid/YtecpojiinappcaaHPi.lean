import Derived.Test.YtecpojiinappcaaHK
import Derived.Test.YtecpojiinappcaaHPu
namespace Go.Proofs.Ytecpojiinappcaa.H
open Go.RowKit Go.Proofs.YtecpojiinappcaaW.PrintWords Go.Proofs.YtecpojiinappcaaW.PrintLast Go.Proofs.YtecpojiinappcaaW.PrintMore
set_option linter.unusedVariables false
set_option linter.unusedSimpArgs false
/-! rows of ints of one's own, two of them side by side -/
abbrev RI (W : World) (base : Nat) (v : Value) (xs : List Int) : Prop := Kd.R (Kd.int .i64) 3 W base (fun _ => True) v xs
theorem R_reok {e base : Nat} {ok ok' : Nat → Prop} {W : World} {v : Value} {xs : List Int} (h : Kd.R (Kd.int .i64) e W base ok v xs) (hk : ∀ k, v.ownBlock = some k → ok' k) : Kd.R (Kd.int .i64) e W base ok' v xs := Kd.R_of_own (Kd.own_of_R h) hk
theorem RI_cell {W : World} {base g n cap : Nat} {xs : List Int} (h : RI W base (.slice (some ⟨g, 0, none⟩) n cap) xs) {i : Int} (h0 : 0 ≤ i) (h1 : i < n) : W.cell? ⟨g, i.toNat, none⟩ = some (.int .i64 (rd_Int xs i)) ∧ W.frozen? ⟨g, i.toNat, none⟩ = false := Kd.R_celln 0 h i h0 h1
theorem RI_set {W : World} {base g n cap : Nat} {xs : List Int} (h : RI W base (.slice (some ⟨g, 0, none⟩) n cap) xs) (i x : Int) : RI (W.setCell ⟨g, i.toNat, none⟩ (.int .i64 x)) base (.slice (some ⟨g, 0, none⟩) n cap) (xs.set i.toNat x) := Kd.R_putn h i x
theorem RI_far {W : World} {base g : Nat} {v : Value} {xs : List Int} (h : RI W base v xs) (hv : v.ownBlock = some g) {b : Nat} (hb : b ≠ g) (j : Nat) (u : Value) : RI (W.setCell ⟨b, j, none⟩ u) base v xs :=
  R_reok (Kd.R_far (R_reok h (ok' := fun k => k = g) (by intro k hk; rw [hv] at hk; cases hk; rfl)) (fun k hk => by rw [hk]; exact fun e => hb e.symm) u) (fun _ _ => trivial)
theorem RI_grown {W w1 : World} {base : Nat} {v : Value} {xs : List Int} (h : RI W base v xs) {row : Option Nat} (hg : W.grownBy w1 row) (hn : ∀ k, v.ownBlock = some k → some k ≠ row) : RI w1 base v xs :=
  R_reok (Kd.R_grown (R_reok h (ok' := fun k => some k ≠ row) hn) hg (fun _ h => h)) (fun _ _ => trivial)
def apart (u v : Value) : Prop := ∀ k, u.ownBlock = some k → v.ownBlock ≠ some k
theorem apart.symm {u v : Value} (h : apart u v) : apart v u := fun k a b => h k b a
/-- behind an append to the row u: the row v, and the two are apart -/
theorem apart_grow {W w1 : World} {base : Nat} {u u1 v : Value} {ys : List Int} (h : apart u v) (hv : RI W base v ys) (hg : W.grownBy w1 u.ownBlock) (ha : u1.ownBlock = u.ownBlock ∨ ∃ b, u1.ownBlock = some b ∧ W.heap.size ≤ b) :
    RI w1 base v ys ∧ apart u1 v := by
  refine ⟨RI_grown hv hg fun k hk e => h k e.symm hk, fun k hk hk2 => ?_⟩
  rcases ha with ha | ⟨b, hb, hle⟩
  · exact h k (ha.symm.trans hk) hk2
  · have := Kd.R_lt hv k hk2
    rw [hb] at hk; cases hk; omega
theorem RI_form {W : World} {base : Nat} {v : Value} {xs : List Int} (h : RI W base v xs) (hp : 0 < xs.length) : ∃ g cap, v = .slice (some ⟨g, 0, none⟩) xs.length cap ∧ base ≤ g := by
  obtain ⟨g, cap, e, h1, -⟩ := Kd.R_form h hp
  exact ⟨g, cap, e, h1⟩

end Go.Proofs.Ytecpojiinappcaa.H
