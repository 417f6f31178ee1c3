import Derived.Test.YtcnamihkghiigaaHK
import Derived.Test.YtcnamihkghiigaaHSg
namespace Go.Proofs.Ytcnamihkghiigaa.H
open Go.RowKit Go.Proofs.YtcnamihkghiigaaW.PrintWords Go.Proofs.YtcnamihkghiigaaW.PrintLast Go.Proofs.YtcnamihkghiigaaW.PrintMore
set_option linter.unusedVariables false
set_option linter.unusedSimpArgs false
/-! rows of surfaces of one's own, written in place -/
theorem rowSur {e base g n cap : Nat} {ok : Nat → Prop} {W : World} {xs : List SSurface} (h : Kd.R kSurface e W base ok (.slice (some ⟨g, 0, none⟩) n cap) xs) {i : Int} (h0 : 0 ≤ i) (h1 : i < n) :
    W.cell? ⟨g, i.toNat * 3, none⟩ = some (.int .i64 (rd_Surface xs i).f0) ∧ W.cell? ⟨g, i.toNat * 3 + 1, none⟩ = some (.int .i64 (rd_Surface xs i).f1) ∧ W.cell? ⟨g, i.toNat * 3 + 2, none⟩ = some (.int .i64 (rd_Surface xs i).f2) ∧ ∀ j, W.frozen? ⟨g, i.toNat * 3 + j, none⟩ = false := by
  obtain ⟨c, hl, hM, hc, hf⟩ := Kd.R_elem h zSurface i h0 h1
  obtain rfl := kSurface_openM hM
  exact ⟨hc 0 _ rfl, hc 1 _ rfl, hc 2 _ rfl, hf⟩
theorem setSur {e base g n cap : Nat} {ok : Nat → Prop} {W : World} {xs : List SSurface} (h : Kd.R kSurface e W base ok (.slice (some ⟨g, 0, none⟩) n cap) xs) {i : Int} (h0 : 0 ≤ i) (h1 : i < n) (x : SSurface) :
    Kd.R kSurface e (((W.setCell ⟨g, i.toNat * 3, none⟩ (.int .i64 x.f0)).setCell ⟨g, i.toNat * 3 + 1, none⟩ (.int .i64 x.f1)).setCell ⟨g, i.toNat * 3 + 2, none⟩ (.int .i64 x.f2)) base ok (.slice (some ⟨g, 0, none⟩) n cap) (xs.set i.toNat x) := by
  obtain ⟨c, hl, hM, hc, hf⟩ := Kd.R_elem h zSurface i h0 h1
  obtain rfl := kSurface_openM hM
  exact (Kd.R_seg h i h0 h1 (okp := fun _ => False) (seg := [.int .i64 x.f0, .int .i64 x.f1, .int .i64 x.f2]) (j := 0) hl hc (by show 0 + 3 ≤ 3; omega) (kSurface_mkM _ _ _ x) (fun _ h => h.elim)).1
theorem setSur1 {e base g n cap : Nat} {ok : Nat → Prop} {W : World} {xs : List SSurface} (h : Kd.R kSurface e W base ok (.slice (some ⟨g, 0, none⟩) n cap) xs) {i : Int} (h0 : 0 ≤ i) (h1 : i < n) (v : Int) :
    Kd.R kSurface e (W.setCell ⟨g, i.toNat * 3 + 1, none⟩ (.int .i64 v)) base ok (.slice (some ⟨g, 0, none⟩) n cap) (xs.set i.toNat ⟨(rd_Surface xs i).f0, v, (rd_Surface xs i).f2⟩) := by
  obtain ⟨c, hl, hM, hc, hf⟩ := Kd.R_elem h zSurface i h0 h1
  obtain rfl := kSurface_openM hM
  exact (Kd.R_seg h i h0 h1 (okp := fun _ => False) (seg := [.int .i64 v]) (j := 1) hl hc (by show 1 + 1 ≤ 3; omega) (kSurface_mkM _ _ _ ⟨(rd_Surface xs i).f0, v, (rd_Surface xs i).f2⟩) (fun _ h => h.elim)).1
theorem setSur2 {e base g n cap : Nat} {ok : Nat → Prop} {W : World} {xs : List SSurface} (h : Kd.R kSurface e W base ok (.slice (some ⟨g, 0, none⟩) n cap) xs) {i : Int} (h0 : 0 ≤ i) (h1 : i < n) (v : Int) :
    Kd.R kSurface e (W.setCell ⟨g, i.toNat * 3 + 2, none⟩ (.int .i64 v)) base ok (.slice (some ⟨g, 0, none⟩) n cap) (xs.set i.toNat ⟨(rd_Surface xs i).f0, (rd_Surface xs i).f1, v⟩) := by
  obtain ⟨c, hl, hM, hc, hf⟩ := Kd.R_elem h zSurface i h0 h1
  obtain rfl := kSurface_openM hM
  exact (Kd.R_seg h i h0 h1 (okp := fun _ => False) (seg := [.int .i64 v]) (j := 2) hl hc (by show 2 + 1 ≤ 3; omega) (kSurface_mkM _ _ _ ⟨(rd_Surface xs i).f0, (rd_Surface xs i).f1, v⟩) (fun _ h => h.elim)).1
theorem rd_set {l : List SSurface} {i : Int} {x : SSurface} (h0 : 0 ≤ i) (h1 : i < l.length) : rd_Surface (l.set i.toNat x) i = x := by
  unfold rd_Surface; rw [List.getD_eq_getElem?_getD, List.getElem?_set_self (by omega)]; rfl

end Go.Proofs.Ytcnamihkghiigaa.H
