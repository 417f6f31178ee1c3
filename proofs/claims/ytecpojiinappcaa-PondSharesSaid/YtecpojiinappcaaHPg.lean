import Derived.Test.YtecpojiinappcaaHK
import Derived.Test.YtecpojiinappcaaHPf
namespace Go.Proofs.Ytecpojiinappcaa.H
open Go.RowKit Go.Proofs.YtecpojiinappcaaW.PrintWords Go.Proofs.YtecpojiinappcaaW.PrintLast Go.Proofs.YtecpojiinappcaaW.PrintMore
set_option linter.unusedVariables false
set_option linter.unusedSimpArgs false
/-! split.Split: the closure that fills the rests -/
set_option maxHeartbeats 8000000 in
theorem filler_c (B1 B2 B3 B4 gR n c c0 base : Nat) (ad : Addr) (x y s q t i : Int) (rs : List Int) (W : World) (hi0 : 0 ≤ i) (hi1 : i < n)
    (h1 : W.cell? ⟨B1, 0, none⟩ = some (.int .i64 x)) (h2 : W.cell? ⟨B2, 0, none⟩ = some (.slice (some ad) n c0)) (h3 : W.cell? ⟨B3, 0, none⟩ = some (.int .i64 s)) (h4 : W.cell? ⟨B4, 0, none⟩ = some (.slice (some ⟨gR, 0, none⟩) n c)) (h5 : W.cell? (ad.add i.toNat) = some (.int .i64 y))
    (hR : RI W base (.slice (some ⟨gR, 0, none⟩) n c) rs) (hx0 : 0 ≤ x) (hx : x ≤ 8000000000) (hy0 : 0 ≤ y) (hy : y ≤ 1000000000) (hs0 : 0 < s) (hs : s ≤ 8000000000) (hq : x * y / s = q) (ht : x * y % s = t) :
    Calls Try.prog 38 #[.int .i64 i, .pointer (some ⟨B1, 0, none⟩), .pointer (some ⟨B2, 0, none⟩), .pointer (some ⟨B3, 0, none⟩), .pointer (some ⟨B4, 0, none⟩)] W fun e w' => e = .returned (.int .i64 q) ∧ RI w' base (.slice (some ⟨gR, 0, none⟩) n c) (rs.set i.toNat t) ∧ W.grownBy w' (some gR) := by
  have hxy : x * y < 9223372036854775808 := by
    have h1 : x * y ≤ 8000000000 * 1000000000 := Int.mul_le_mul hx hy hy0 (by omega)
    omega
  have C := fun W' => exact_c x y s hx0 (by omega) hy0 hy hs0 (by omega) hxy W'
  rw [hq, ht] at C
  have HC := Aside0.mk C
  have HR := Aside0.mk hR
  have C1 := Aside0.mk (fun X (u : Up W X) => (u.cell (World.block_lt_of_cell? W _ h1)).trans h1)
  have C2 := Aside0.mk (fun X (u : Up W X) => (u.cell (World.block_lt_of_cell? W _ h2)).trans h2)
  have C3 := Aside0.mk (fun X (u : Up W X) => (u.cell (World.block_lt_of_cell? W _ h3)).trans h3)
  have C4 := Aside0.mk (fun X (u : Up W X) => (u.cell (World.block_lt_of_cell? W _ h4)).trans h4)
  have C5 := Aside0.mk (fun X (u : Up W X) => (u.cell (World.block_lt_of_cell? W _ h5)).trans h5)
  have HI := Aside0.mk (And.intro hi0 hi1)
  clear C hR h1 h2 h3 h4 h5 hxy hx0 hx hy0 hy hs0 hs hq ht
  replace hi0 := eq_true hi0; replace hi1 := eq_true hi1
  go_enter Try.func38, Try.ntmps38
  go_upto_region 1 with (fail)
  first | (go_region_held3 (fun w' => Up W w' ∧ w'.cell? ⟨B1, 0, none⟩ = some (.int .i64 x) ∧ w'.cell? ⟨B2, 0, none⟩ = some (.slice (some ad) n c0) ∧ w'.cell? ⟨B3, 0, none⟩ = some (.int .i64 s) ∧ w'.cell? (ad.add i.toNat) = some (.int .i64 y)) (first | (have hU_ := (Up.refl W).drew; exact ⟨hU_, C1.out _ hU_, C2.out _ hU_, C3.out _ hU_, C5.out _ hU_⟩) | (have hU_ : Up W _ := (by assumption); exact ⟨hU_, C1.out _ hU_, C2.out _ hU_, C3.out _ hU_, C5.out _ hU_⟩)) (first | (go_at_call 39; (with_reducible refine (HC.out _).mono ?_); rintro e w' ⟨rfl, hb⟩; have hU := Up.step (w := W) (by first | assumption | exact (Up.refl W).drew) hb; clear hb))) | fail
  all_goals
    have HZ := Aside0.mk (show Up W _ by assumption)
    have HR2 := Aside0.mk (Kd.R_below HR.out HZ.out)
    obtain ⟨cc, fz⟩ := RI_cell HR2.out HI.out.1 HI.out.2
    have c4 := C4.out _ HZ.out
    go_wp2
    go_ret
    exact ⟨rfl, RI_set HR2.out i t, gr_trans (gr_up HZ.out) (gr_set _ _ _ _)⟩

end Go.Proofs.Ytecpojiinappcaa.H
