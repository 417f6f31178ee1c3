import Derived.Test.YtcnamihkghiigaaHK
import Derived.Test.YtcnamihkghiigaaHSl
namespace Go.Proofs.Ytcnamihkghiigaa.H
open Go.RowKit Go.Proofs.YtcnamihkghiigaaW.PrintWords Go.Proofs.YtcnamihkghiigaaW.PrintLast Go.Proofs.YtcnamihkghiigaaW.PrintMore
set_option linter.unusedVariables false
set_option linter.unusedSimpArgs false
/-! Worst where nothing is struck; SameInts -/
theorem infoInt : (Try.prog.info? 3).map (fun i => (i.zero, i.size, i.bytes)) = some (some (.int .i64 0), 1, 8) := by kernel_rfl
theorem sortS_len (c : SSurface → SSurface → Int) (xs : List SSurface) : (sortS c xs).length = xs.length := outF_len _ _ _ _ _
theorem take_map {l : List SSurface} {k : Int} (h0 : 0 ≤ k) (h : k < l.length) : (l.take k.toNat).map (·.f0) ++ [(rd_Surface l k).f0] = (l.take (k + 1).toNat).map (·.f0) := by
  rw [← take_next h0 (rd_at h0 h)]; simp
set_option maxHeartbeats 8000000 in
theorem WorstA_c (A0 : Option Addr) (c0 : Nat) (l : List SSurface) (t least : Int) (w : World) (X : List SSurface) (h : sortS (cmpS t) l = X) (hd : idxF (fun i => decide (least ≤ qualS (rd_Surface l i) t)) (l.length - (0 : Int).toNat) 0 = -1) (hp : 0 < l.length) (hn : l.length ≤ 19) (hr0 : Kd.C kSurface w A0 l.length l) :
    Calls Try.prog 22 #[.slice A0 l.length c0, .int .i64 t, .int .i64 least] w fun e w' => ∃ v, e = .returned v ∧ Kd.R (Kd.int .i64) 3 w' w.heap.size (fun _ => True) v (X.map (·.f0)) ∧ Up w w' := by
  have hu := Try.underlying32
  obtain ⟨W0, hW0⟩ : ∃ W0, W0 = (w.alloc (.cells #[.int .i64 t] 3)).alloc (.cells #[.int .i64 least] 3) := ⟨_, rfl⟩
  have HB0 := Aside0.mk (show Up w W0 by rw [hW0]; exact ((Up.refl w).alloc _).alloc _)
  have b1 : W0.cell? ⟨w.heap.size, 0, none⟩ = some (.int .i64 t) := by rw [hW0]; exact (blk_cell (blk_alloc (blk_new w _) _) 0).trans rfl
  have b2 : W0.cell? ⟨w.heap.size + 1, 0, none⟩ = some (.int .i64 least) := by rw [hW0]; exact (blk_cell (blk_2 w _ _) 0).trans rfl
  have B1 := Aside0.mk (fun W (u : Up W0 W) => (u.cell (World.block_lt_of_cell? W0 _ b1)).trans b1)
  have B2 := Aside0.mk (fun W (u : Up W0 W) => (u.cell (World.block_lt_of_cell? W0 _ b2)).trans b2)
  have HR := Aside0.mk (C_up hr0 HB0.out)
  have HS := Aside0.mk h
  have HD := Aside0.mk hd
  have HP := Aside0.mk hp
  have HN := Aside0.mk hn
  clear h hd hp hn hr0 b1 b2
  go_enter Try.func22, Try.ntmps22
  go_wp2_with fail
  rw [← hW0]
  clear hW0
  (with_reducible refine (CloneSurface_c A0 c0 l W0 (by have := HN.out; omega) HR.out).mono ?_)
  rintro e w1 ⟨v, rfl, hR, hb⟩
  obtain ⟨g, cap, rfl, hg0, hg1, cells, hcell⟩ := Kd.R_form hR HP.out
  have HR1 := Aside0.mk hR
  have HU1 := Aside0.mk hb
  clear hR hb hg0 hg1 hcell HR
  go_wp2_with fail
  have hdel := DelNone_c 29 #[.pointer (some ⟨w.heap.size, 0, none⟩), .pointer (some ⟨w.heap.size + 1, 0, none⟩)] (fun i => decide (least ≤ qualS (rd_Surface l i) t)) (some ⟨g, 0, none⟩) cap l w1 HD.out (Kd.R_reads' HR1.out).2.2 (fun args w => enters_ Try.func29 (by kernel_rfl) rfl args w) (fun W i hu h0 h1 => Worst1_c _ _ t least (rd_Surface l i).f0 (rd_Surface l i).f1 (rd_Surface l i).f2 W (B1.out W (Up.step HU1.out hu)) (B2.out W (Up.step HU1.out hu)))
  (with_reducible refine hdel.mono ?_)
  clear hdel
  rintro e w2 ⟨rfl, hb⟩
  have HR2 := Aside0.mk (Kd.R_below HR1.out hb)
  have HU2 := Aside0.mk (Up.step HU1.out hb)
  clear hb HU1 HR1 HD
  go_wp2_with fail
  have hsrt := sort_c 31 #[.pointer (some ⟨w.heap.size, 0, none⟩)] (cmpS t) W0 w2 g l.length cap l HN.out HR2.out HU2.out (fun args w => enters_ Try.func31 (by kernel_rfl) rfl args w) (fun W x y hu => Worst2_c _ t x.f0 x.f1 x.f2 y.f0 y.f1 y.f2 W (B1.out W hu))
  (with_reducible refine hsrt.mono ?_)
  clear hsrt
  rintro e w3 ⟨rfl, hR, hb⟩
  rw [HS.out] at hR
  have HXL := Aside0.mk (show l.length = X.length by rw [← HS.out, sortS_len])
  have HU3 := Aside0.mk (Up.step HB0.out hb)
  have hrow : ∀ (W : World) (i : Int), Up w3 W → 0 ≤ i → i < l.length → W.cell? ⟨g, i.toNat * 3, none⟩ = some (.int .i64 (rd_Surface X i).f0) ∧ W.cell? ⟨g, i.toNat * 3 + 1, none⟩ = some (.int .i64 (rd_Surface X i).f1) ∧ W.cell? ⟨g, i.toNat * 3 + 2, none⟩ = some (.int .i64 (rd_Surface X i).f2) := by
    intro W i u h0 h1
    obtain ⟨x0, x1, x2, -⟩ := rowSur (Kd.R_below hR u) h0 h1
    exact ⟨x0, x1, x2⟩
  have hx0 := fun W i u h0 h1 => (hrow W i u h0 h1).1
  have hx1 := fun W i u h0 h1 => (hrow W i u h0 h1).2.1
  have hx2 := fun W i u h0 h1 => (hrow W i u h0 h1).2.2
  clear hR hb HR2 HU2 hrow B1 B2 HB0
  have HB := Up.refl w3
  go_wp2
  go_loopg [8, 10, 20] (l.length) (fun gk v8 _ v20 w' => ∃ k : Int, v20 = .int .i64 k ∧ 0 ≤ k ∧ l.length - k.toNat ≤ gk ∧ k ≤ l.length ∧ Aside0 (Kd.R (Kd.int .i64) 3 w' w3.heap.size (fun _ => True) v8 ((X.take k.toNat).map (·.f0))) ∧ Up w3 w')
  case atStart => exact ⟨0, rfl, by omega, by omega, by omega, ⟨by simpa using Kd.R_nil _ _ _ _ _⟩, HB⟩
  case round =>
    clear HB
    obtain ⟨k, rfl, hk, hg, hkl, HO, HB⟩ := hrel
    have HI := Aside0.mk hk
    by_cases hlt : k < l.length
    · have HL := Aside0.mk hlt
      have hlt2 := decide_eq_true hlt
      have HG := Aside0.mk hg
      clear hkl hg
      have HBA := Aside0.mk HB
      replace hk := eq_true hk; replace hlt := eq_true hlt
      go_wp2_with ((with_reducible refine gate_dst (N := 28) rfl ?_); refine Kd.R_append (Kd.int .i64) (w0 := w3) w3.heap.size rfl (.tmp 24) (.tmp 27) 36 3 _ 8 rfl Try.underlying36 infoInt rfl (by decide) (by decide) _ ((X.take k.toNat).map (·.f0)) (rd_Surface X k).f0 [.int .i64 (rd_Surface X k).f0] (fun _ => True) (fun _ => False) rfl (by simp [Act.eval]) rfl (fun _ h => h.elim) (fun _ _ => trivial) (Kd.R_alloc HO.out _) ?aB ?aS ?aL ?_; (case aB => exact HBA.out.alloc _); (case aS => have := HBA.out.size; simp; omega); (case aL => have := HN.out; have := HL.out; simp; omega); intro v1 w4 ho hb hg hat)
      have HO2 := Aside0.mk ho
      have HB2 := Aside0.mk (show Up w3 w4 from hb)
      clear ho hb hg hat HB
      go_wp2
      go_roundg (gk - 1)
      case measure => have := HL.out; have := HI.out; have := HG.out; omega
      case rel => exact ⟨k + 1, (by first | rfl | (simp; done) | (have := HL.out; have := HI.out; have := HN.out; congr 1; unfold wrap64; omega)), by have := HI.out; omega, by have := HL.out; have := HI.out; have := HG.out; omega, by have := HL.out; omega, ⟨by rw [← take_map HI.out (by have := HL.out; have := HXL.out; omega)]; exact HO2.out⟩, HB2.out⟩
    · have HKL := Aside0.mk (show (l.length : Int) ≤ k by omega)
      replace hlt := decide_eq_false hlt
      have HZ := Aside0.mk (show X.take k.toNat = X by rw [List.take_of_length_le]; have := HI.out; have := HKL.out; have := HXL.out; omega)
      go_wp2
      go_ret
      exact ⟨_, rfl, by have h := HO.out; rw [HZ.out] at h; exact Kd.R_lower h HU3.out.size, Up.step HU3.out HB⟩

end Go.Proofs.Ytcnamihkghiigaa.H
