import Derived.Test.YtcnamihkghiigaaHK
import Derived.Test.YtcnamihkghiigaaHSc
namespace Go.Proofs.Ytcnamihkghiigaa.H
open Go.RowKit Go.Proofs.YtcnamihkghiigaaW.PrintWords Go.Proofs.YtcnamihkghiigaaW.PrintLast Go.Proofs.YtcnamihkghiigaaW.PrintMore
set_option linter.unusedVariables false
set_option linter.unusedSimpArgs false
/-! skiarearef48.with -/
theorem rd_at {l : List SSurface} {k : Int} (h0 : 0 ≤ k) (h : k < l.length) : l[k.toNat]? = some (rd_Surface l k) := by
  unfold rd_Surface; rw [List.getD_eq_getElem?_getD, List.getElem?_eq_getElem (by omega)]; rfl
theorem take_next {l : List SSurface} {k : Int} {x : SSurface} (h0 : 0 ≤ k) (h : l[k.toNat]? = some x) : l.take k.toNat ++ [x] = l.take (k + 1).toNat := by
  rw [show (k + 1).toNat = k.toNat + 1 by omega, List.take_add_one, h]; rfl
set_option maxHeartbeats 8000000 in
theorem with_c (A0 : Option Addr) (c0 : Nat) (l : List SSurface) (i a0 a1 a2 : Int) (w : World) (R : List SSurface) (h : l.set i.toNat ⟨a0, a1, a2⟩ = R) (hi0 : 0 ≤ i) (hn : l.length ≤ 1000) (hr0 : Kd.C kSurface w A0 l.length l) :
    Calls Try.prog 27 #[.slice A0 l.length c0, .int .i64 i, .agg #[.int .i64 a0, .int .i64 a1, .int .i64 a2]] w fun e w' => ∃ v, e = .returned v ∧ Kd.R kSurface 32 w' w.heap.size (fun _ => True) v R ∧ Up w w' := by
  have hu := Try.underlying32
  have HR := Aside0.mk hr0
  have HN := Aside0.mk hn
  have HI0 := Aside0.mk hi0
  have HS := Aside0.mk h
  have HB := Up.refl (w.alloc (.cells #[.int .i64 a0, .int .i64 a1, .int .i64 a2] 32))
  clear hr0 hn hi0 h
  go_enter Try.func27, Try.ntmps27
  go_wp2
  go_loopg [7, 8] (l.length) (fun gk v7 v8 w' => ∃ k : Int, v8 = .int .i64 k ∧ 0 ≤ k ∧ l.length - k.toNat ≤ gk ∧ k ≤ l.length ∧ Aside0 (Kd.R kSurface 32 w' (w.heap.size + 1) (fun _ => True) v7 (R.take k.toNat)) ∧ Up (w.alloc (.cells #[.int .i64 a0, .int .i64 a1, .int .i64 a2] 32)) w')
  case atStart => exact ⟨0, rfl, by omega, by omega, by omega, ⟨by simpa using Kd.R_nil _ _ _ _ _⟩, HB⟩
  case round =>
    clear HB
    obtain ⟨k, rfl, hk, hg, hkl, HO, HB1⟩ := hrel
    have HI := Aside0.mk hk
    have hbk := Up.blk HB1 (blk_new w _)
    have HB : Up w wr := Up.step (by repeat (with_reducible first | exact (Up.refl w) | apply Up.alloc | apply Up.drewN | apply Up.drew)) HB1
    have hlen : R.length = l.length := by rw [← HS.out]; simp
    by_cases hlt : k < l.length
    · have HL := Aside0.mk hlt
      have HW := Aside0.mk (show wr.heap.size ≥ w.heap.size + 1 by have := HB1.size; simpa using this)
      obtain ⟨ad, rfl⟩ : ∃ ad, A0 = some ad := by obtain ⟨ad, c, e, _⟩ := Kd.C_get HR.out zSurface k hk hlt; exact ⟨ad, e⟩
      obtain ⟨hx0, hx1, hx2⟩ := rx_Surface HR.out
      have hlt2 := decide_eq_true hlt
      have q0 := (blk_cell hbk 0).trans rfl
      have q1 := (blk_cell hbk 1).trans rfl
      have q2 := (blk_cell hbk 2).trans rfl
      simp only [List.getElem?_toArray, List.getElem?_cons_zero, List.getElem?_cons_succ] at q0 q1 q2
      have HLN := Aside0.mk hlen
      clear hlen hkl hbk
      by_cases t1 : k = i
      · have HX := Aside0.mk (show R[k.toNat]? = some ⟨a0, a1, a2⟩ by rw [← HS.out, t1]; rw [List.getElem?_set_self (by have := HL.out; have := HI.out; omega)])
        replace hk := eq_true hk; replace hlt := eq_true hlt
        have t1n := bne_eq_false_iff_eq.mpr t1; replace t1 := beq_iff_eq.mpr t1
        go_wp2_with ((with_reducible refine gate_dst (N := 21) rfl ?_); refine Kd.R_append kSurface (w0 := w.alloc (.cells #[.int .i64 a0, .int .i64 a1, .int .i64 a2] 32)) (w.heap.size + 1) rfl (.tmp 18) (.tmp 20) 22 32 _ 24 rfl Try.underlying22 infoSurface rfl (by decide) (by decide) u7 (R.take k.toNat) ⟨a0, a1, a2⟩ [.int .i64 a0, .int .i64 a1, .int .i64 a2] (fun _ => True) (fun _ => False) rfl rfl (kSurface_mkM _ _ _ _) (fun _ h => h.elim) (fun _ _ => trivial) HO.out ?aB HW.out ?aL ?_; (case aB => exact HB1.mono (by simp)); (case aL => have := HN.out; have := HL.out; simp; omega); intro v1 w2 ho hb hg hat)
        have HO2 := Aside0.mk ho
        have HB2 := Aside0.mk (show Up (w.alloc (.cells #[.int .i64 a0, .int .i64 a1, .int .i64 a2] 32)) w2 from by unfold Up; exact hb.mono (by simp))
        clear ho hb hg hat q0 q1 q2 HB HB1
        go_wp2
        go_roundg (gk - 1)
        case measure => have := HL.out; have := HI.out; omega
        case rel => exact ⟨k + 1, (by first | rfl | (simp; done) | (have := HL.out; have := HI.out; have := HN.out; congr 1; unfold wrap64; omega)), by have := HI.out; omega, by have := HL.out; have := HI.out; omega, by have := HL.out; omega, ⟨by rw [← take_next HI.out HX.out]; exact HO2.out⟩, HB2.out⟩
      · have HX := Aside0.mk (show R[k.toNat]? = some (rd_Surface l k) by rw [← HS.out]; rw [List.getElem?_set_ne (by have := HI.out; have := HI0.out; omega)]; exact rd_at HI.out HL.out)
        replace hk := eq_true hk; replace hlt := eq_true hlt
        have t1n := bne_iff_ne.mpr t1; replace t1 := beq_eq_false_iff_ne.mpr t1
        go_wp2_with ((with_reducible refine gate_dst (N := 28) rfl ?_); refine Kd.R_append kSurface (w0 := w.alloc (.cells #[.int .i64 a0, .int .i64 a1, .int .i64 a2] 32)) (w.heap.size + 1) rfl (.tmp 22) (.tmp 27) 22 32 _ 24 rfl Try.underlying22 infoSurface rfl (by decide) (by decide) u7 (R.take k.toNat) (rd_Surface l k) [.int .i64 (rd_Surface l k).f0, .int .i64 (rd_Surface l k).f1, .int .i64 (rd_Surface l k).f2] (fun _ => True) (fun _ => False) rfl rfl (kSurface_mkM _ _ _ _) (fun _ h => h.elim) (fun _ _ => trivial) HO.out ?aB HW.out ?aL ?_; (case aB => exact HB1.mono (by simp)); (case aL => have := HN.out; have := HL.out; simp; omega); intro v1 w2 ho hb hg hat)
        have HO2 := Aside0.mk ho
        have HB2 := Aside0.mk (show Up (w.alloc (.cells #[.int .i64 a0, .int .i64 a1, .int .i64 a2] 32)) w2 from by unfold Up; exact hb.mono (by simp))
        clear ho hb hg hat q0 q1 q2 HB HB1
        go_wp2
        go_roundg (gk - 1)
        case measure => have := HL.out; have := HI.out; omega
        case rel => exact ⟨k + 1, (by first | rfl | (simp; done) | (have := HL.out; have := HI.out; have := HN.out; congr 1; unfold wrap64; omega)), by have := HI.out; omega, by have := HL.out; have := HI.out; omega, by have := HL.out; omega, ⟨by rw [← take_next HI.out HX.out]; exact HO2.out⟩, HB2.out⟩
    · have HKL := Aside0.mk (show (l.length : Int) ≤ k by omega)
      replace hlt := decide_eq_false hlt
      have HZ := Aside0.mk (show R.take k.toNat = R by rw [List.take_of_length_le]; have := HI.out; have := HKL.out; omega)
      go_wp2
      go_ret
      exact ⟨_, rfl, by have h := HO.out; rw [HZ.out] at h; exact Kd.R_lower h (by omega), HB⟩

end Go.Proofs.Ytcnamihkghiigaa.H
