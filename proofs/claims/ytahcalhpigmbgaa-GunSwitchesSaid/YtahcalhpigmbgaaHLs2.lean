import Derived.Test.YtahcalhpigmbgaaHK
import Derived.Test.YtahcalhpigmbgaaHLs
namespace Go.Proofs.Ytahcalhpigmbgaa.H
open Go.RowKit Go.Proofs.YtahcalhpigmbgaaW.PrintWords Go.Proofs.YtahcalhpigmbgaaW.PrintLast Go.Proofs.YtahcalhpigmbgaaW.PrintMore
set_option linter.unusedVariables false
set_option linter.unusedSimpArgs false
/-! GunSwitches -/
attribute [local go_sem high] eqA31
set_option maxHeartbeats 16000000 in
set_option maxRecDepth 100000 in
theorem GunSwitches_c (a0 a1 a2 a3 a4 a5 a6 a7 t : Int) (w : World) : Calls Try.prog 4 #[.agg #[.int .i64 a0, .int .i64 a1, .int .i64 a2, .int .i64 a3, .int .i64 a4, .int .i64 a5, .int .i64 a6, .int .i64 a7], .int .i64 t] w fun e w' => e = .returned (.bool true) ∧ Up w w' := by
  have hu := Try.underlying31
  have HB := Up.refl w
  obtain ⟨b, hb⟩ : ∃ b, singleS ⟨a0, a1, a2, a3, a4, a5, a6, a7⟩ = b := ⟨_, rfl⟩
  have H0 := Aside0.mk hb
  clear hb
  obtain ⟨⟨b0, b1, b2, b3, b4, b5, b6, b7⟩, be, hb⟩ : ∃ (g : SGun) (e : Int), startS ⟨a0, a1, a2, a3, a4, a5, a6, a7⟩ t = (g, e) := ⟨_, _, rfl⟩
  have Hb := Aside0.mk hb
  clear hb
  obtain ⟨⟨c0, c1, c2, c3, c4, c5, c6, c7⟩, ce, hc⟩ : ∃ (g : SGun) (e : Int), stopS ⟨a0, a1, a2, a3, a4, a5, a6, a7⟩ t = (g, e) := ⟨_, _, rfl⟩
  have Hc := Aside0.mk hc
  clear hc
  obtain ⟨⟨d0, d1, d2, d3, d4, d5, d6, d7⟩, de, hd⟩ : ∃ (g : SGun) (e : Int), failS ⟨a0, a1, a2, a3, a4, a5, a6, a7⟩ t = (g, e) := ⟨_, _, rfl⟩
  have Hd := Aside0.mk hd
  clear hd
  obtain ⟨⟨f0, f1, f2, f3, f4, f5, f6, f7⟩, fe, hf⟩ : ∃ (g : SGun) (e : Int), repairS ⟨a0, a1, a2, a3, a4, a5, a6, a7⟩ t = (g, e) := ⟨_, _, rfl⟩
  have Hf := Aside0.mk hf
  clear hf
  go_enter Try.func4, Try.ntmps4
  go_wp2_with fail
  (with_reducible refine (alive_c _).mono ?_)
  rintro e W0 ⟨rfl, hb⟩
  have K2 := Aside0.mk (Up.blk hb (blk_new w _))
  have HB := Aside0.mk (show Up w W0 from Up.step (HB.alloc _) hb)
  clear hb
  obtain ⟨g2, hg⟩ : ∃ g, g = w.heap.size := ⟨_, rfl⟩
  rw [← hg] at K2 ⊢
  clear hg
  have q0 := (blk_cell K2.out 0).trans rfl
  have q1 := (blk_cell K2.out 1).trans rfl
  have q2 := (blk_cell K2.out 2).trans rfl
  have q3 := (blk_cell K2.out 3).trans rfl
  have q4 := (blk_cell K2.out 4).trans rfl
  have q5 := (blk_cell K2.out 5).trans rfl
  have q6 := (blk_cell K2.out 6).trans rfl
  have q7 := (blk_cell K2.out 7).trans rfl
  simp only [List.getElem?_toArray, List.getElem?_cons_zero, List.getElem?_cons_succ] at q0 q1 q2 q3 q4 q5 q6 q7
  go_wp2_with fail
  clear q0 q1 q2 q3 q4 q5 q6 q7
  (with_reducible refine (single_c a0 a1 a2 a3 a4 a5 a6 a7 b _ H0.out).mono ?_)
  rintro e V0 ⟨rfl, hb⟩
  have K2 := Aside0.mk (Up.blk hb K2.out)
  have HB := Aside0.mk (Up.step HB.out hb)
  clear hb
  cases b
  · go_wp2
    go_ret
    exact ⟨rfl, HB.out⟩
  go_upto_region 5 with (fail)
  have q0 := (blk_cell K2.out 0).trans rfl
  have q1 := (blk_cell K2.out 1).trans rfl
  have q2 := (blk_cell K2.out 2).trans rfl
  have q3 := (blk_cell K2.out 3).trans rfl
  have q4 := (blk_cell K2.out 4).trans rfl
  have q5 := (blk_cell K2.out 5).trans rfl
  have q6 := (blk_cell K2.out 6).trans rfl
  have q7 := (blk_cell K2.out 7).trans rfl
  simp only [List.getElem?_toArray, List.getElem?_cons_zero, List.getElem?_cons_succ] at q0 q1 q2 q3 q4 q5 q6 q7
  go_wp2_with fail
  clear q0 q1 q2 q3 q4 q5 q6 q7
  (with_reducible refine (Start_c a0 a1 a2 a3 a4 a5 a6 a7 t b0 b1 b2 b3 b4 b5 b6 b7 be _ Hb.out).mono ?_)
  rintro e w2 ⟨rfl, hb⟩
  go_upto_region 6 with (fail)
  obtain ⟨g5, hg⟩ : ∃ g, g = w2.heap.size := ⟨_, rfl⟩
  rw [← hg]
  obtain ⟨W5, hX⟩ : ∃ X, X = w2.alloc (.cells #[.int .i64 b0, .int .i64 b1, .int .i64 b2, .int .i64 b3, .int .i64 b4, .int .i64 b5, .int .i64 b6, .int .i64 b7] 31) := ⟨_, rfl⟩
  rw [← hX]
  have HX : Up V0 W5 := by rw [hX]; exact hb.alloc _
  have L := (show W5.heap[g5]? = some (.cells #[.int .i64 b0, .int .i64 b1, .int .i64 b2, .int .i64 b3, .int .i64 b4, .int .i64 b5, .int .i64 b6, .int .i64 b7] 31 (0, 0)) by rw [hX, hg]; exact blk_new w2 _)
  have K2 := Aside0.mk (Up.blk HX K2.out)
  have K5 := Aside0.mk L
  have HB := Aside0.mk (Up.step HB.out HX)
  clear L hX hg HX hb
  have q0 := (blk_cell K2.out 0).trans rfl
  have q1 := (blk_cell K2.out 1).trans rfl
  have q2 := (blk_cell K2.out 2).trans rfl
  have q3 := (blk_cell K2.out 3).trans rfl
  have q4 := (blk_cell K2.out 4).trans rfl
  have q5 := (blk_cell K2.out 5).trans rfl
  have q6 := (blk_cell K2.out 6).trans rfl
  have q7 := (blk_cell K2.out 7).trans rfl
  simp only [List.getElem?_toArray, List.getElem?_cons_zero, List.getElem?_cons_succ] at q0 q1 q2 q3 q4 q5 q6 q7
  go_wp2_with fail
  clear q0 q1 q2 q3 q4 q5 q6 q7
  (with_reducible refine (StartR_c a0 a1 a2 a3 a4 a5 a6 a7 t b0 b1 b2 b3 b4 b5 b6 b7 be _ Hb.out).mono ?_)
  rintro e w2 ⟨rfl, hb⟩
  go_upto_region 7 with (fail)
  obtain ⟨g7, hg⟩ : ∃ g, g = w2.heap.size := ⟨_, rfl⟩
  rw [← hg]
  obtain ⟨W7, hX⟩ : ∃ X, X = w2.alloc (.cells #[.int .i64 b0, .int .i64 b1, .int .i64 b2, .int .i64 b3, .int .i64 b4, .int .i64 b5, .int .i64 b6, .int .i64 b7] 31) := ⟨_, rfl⟩
  rw [← hX]
  have HX : Up W5 W7 := by rw [hX]; exact hb.alloc _
  have L := (show W7.heap[g7]? = some (.cells #[.int .i64 b0, .int .i64 b1, .int .i64 b2, .int .i64 b3, .int .i64 b4, .int .i64 b5, .int .i64 b6, .int .i64 b7] 31 (0, 0)) by rw [hX, hg]; exact blk_new w2 _)
  have K2 := Aside0.mk (Up.blk HX K2.out)
  have K5 := Aside0.mk (Up.blk HX K5.out)
  have K7 := Aside0.mk L
  have HB := Aside0.mk (Up.step HB.out HX)
  clear L hX hg HX hb
  have q0 := (blk_cell K2.out 0).trans rfl
  have q1 := (blk_cell K2.out 1).trans rfl
  have q2 := (blk_cell K2.out 2).trans rfl
  have q3 := (blk_cell K2.out 3).trans rfl
  have q4 := (blk_cell K2.out 4).trans rfl
  have q5 := (blk_cell K2.out 5).trans rfl
  have q6 := (blk_cell K2.out 6).trans rfl
  have q7 := (blk_cell K2.out 7).trans rfl
  simp only [List.getElem?_toArray, List.getElem?_cons_zero, List.getElem?_cons_succ] at q0 q1 q2 q3 q4 q5 q6 q7
  go_wp2_with fail
  clear q0 q1 q2 q3 q4 q5 q6 q7
  (with_reducible refine (Stop_c a0 a1 a2 a3 a4 a5 a6 a7 t c0 c1 c2 c3 c4 c5 c6 c7 ce _ Hc.out).mono ?_)
  rintro e w2 ⟨rfl, hb⟩
  go_upto_region 8 with (fail)
  obtain ⟨g9, hg⟩ : ∃ g, g = w2.heap.size := ⟨_, rfl⟩
  rw [← hg]
  obtain ⟨W9, hX⟩ : ∃ X, X = w2.alloc (.cells #[.int .i64 c0, .int .i64 c1, .int .i64 c2, .int .i64 c3, .int .i64 c4, .int .i64 c5, .int .i64 c6, .int .i64 c7] 31) := ⟨_, rfl⟩
  rw [← hX]
  have HX : Up W7 W9 := by rw [hX]; exact hb.alloc _
  have L := (show W9.heap[g9]? = some (.cells #[.int .i64 c0, .int .i64 c1, .int .i64 c2, .int .i64 c3, .int .i64 c4, .int .i64 c5, .int .i64 c6, .int .i64 c7] 31 (0, 0)) by rw [hX, hg]; exact blk_new w2 _)
  have K2 := Aside0.mk (Up.blk HX K2.out)
  have K5 := Aside0.mk (Up.blk HX K5.out)
  have K7 := Aside0.mk (Up.blk HX K7.out)
  have K9 := Aside0.mk L
  have HB := Aside0.mk (Up.step HB.out HX)
  clear L hX hg HX hb
  have q0 := (blk_cell K2.out 0).trans rfl
  have q1 := (blk_cell K2.out 1).trans rfl
  have q2 := (blk_cell K2.out 2).trans rfl
  have q3 := (blk_cell K2.out 3).trans rfl
  have q4 := (blk_cell K2.out 4).trans rfl
  have q5 := (blk_cell K2.out 5).trans rfl
  have q6 := (blk_cell K2.out 6).trans rfl
  have q7 := (blk_cell K2.out 7).trans rfl
  simp only [List.getElem?_toArray, List.getElem?_cons_zero, List.getElem?_cons_succ] at q0 q1 q2 q3 q4 q5 q6 q7
  go_wp2_with fail
  clear q0 q1 q2 q3 q4 q5 q6 q7
  (with_reducible refine (StopR_c a0 a1 a2 a3 a4 a5 a6 a7 t c0 c1 c2 c3 c4 c5 c6 c7 ce _ Hc.out).mono ?_)
  rintro e w2 ⟨rfl, hb⟩
  go_upto_region 9 with (fail)
  obtain ⟨g11, hg⟩ : ∃ g, g = w2.heap.size := ⟨_, rfl⟩
  rw [← hg]
  obtain ⟨W11, hX⟩ : ∃ X, X = w2.alloc (.cells #[.int .i64 c0, .int .i64 c1, .int .i64 c2, .int .i64 c3, .int .i64 c4, .int .i64 c5, .int .i64 c6, .int .i64 c7] 31) := ⟨_, rfl⟩
  rw [← hX]
  have HX : Up W9 W11 := by rw [hX]; exact hb.alloc _
  have L := (show W11.heap[g11]? = some (.cells #[.int .i64 c0, .int .i64 c1, .int .i64 c2, .int .i64 c3, .int .i64 c4, .int .i64 c5, .int .i64 c6, .int .i64 c7] 31 (0, 0)) by rw [hX, hg]; exact blk_new w2 _)
  have K2 := Aside0.mk (Up.blk HX K2.out)
  have K5 := Aside0.mk (Up.blk HX K5.out)
  have K7 := Aside0.mk (Up.blk HX K7.out)
  have K9 := Aside0.mk (Up.blk HX K9.out)
  have K11 := Aside0.mk L
  have HB := Aside0.mk (Up.step HB.out HX)
  clear L hX hg HX hb
  have q0 := (blk_cell K2.out 0).trans rfl
  have q1 := (blk_cell K2.out 1).trans rfl
  have q2 := (blk_cell K2.out 2).trans rfl
  have q3 := (blk_cell K2.out 3).trans rfl
  have q4 := (blk_cell K2.out 4).trans rfl
  have q5 := (blk_cell K2.out 5).trans rfl
  have q6 := (blk_cell K2.out 6).trans rfl
  have q7 := (blk_cell K2.out 7).trans rfl
  simp only [List.getElem?_toArray, List.getElem?_cons_zero, List.getElem?_cons_succ] at q0 q1 q2 q3 q4 q5 q6 q7
  go_wp2_with fail
  clear q0 q1 q2 q3 q4 q5 q6 q7
  (with_reducible refine (Fail_c a0 a1 a2 a3 a4 a5 a6 a7 t d0 d1 d2 d3 d4 d5 d6 d7 de _ Hd.out).mono ?_)
  rintro e w2 ⟨rfl, hb⟩
  go_upto_region 10 with (fail)
  obtain ⟨g13, hg⟩ : ∃ g, g = w2.heap.size := ⟨_, rfl⟩
  rw [← hg]
  obtain ⟨W13, hX⟩ : ∃ X, X = w2.alloc (.cells #[.int .i64 d0, .int .i64 d1, .int .i64 d2, .int .i64 d3, .int .i64 d4, .int .i64 d5, .int .i64 d6, .int .i64 d7] 31) := ⟨_, rfl⟩
  rw [← hX]
  have HX : Up W11 W13 := by rw [hX]; exact hb.alloc _
  have L := (show W13.heap[g13]? = some (.cells #[.int .i64 d0, .int .i64 d1, .int .i64 d2, .int .i64 d3, .int .i64 d4, .int .i64 d5, .int .i64 d6, .int .i64 d7] 31 (0, 0)) by rw [hX, hg]; exact blk_new w2 _)
  have K2 := Aside0.mk (Up.blk HX K2.out)
  have K5 := Aside0.mk (Up.blk HX K5.out)
  have K7 := Aside0.mk (Up.blk HX K7.out)
  have K9 := Aside0.mk (Up.blk HX K9.out)
  have K11 := Aside0.mk (Up.blk HX K11.out)
  have K13 := Aside0.mk L
  have HB := Aside0.mk (Up.step HB.out HX)
  clear L hX hg HX hb
  have q0 := (blk_cell K2.out 0).trans rfl
  have q1 := (blk_cell K2.out 1).trans rfl
  have q2 := (blk_cell K2.out 2).trans rfl
  have q3 := (blk_cell K2.out 3).trans rfl
  have q4 := (blk_cell K2.out 4).trans rfl
  have q5 := (blk_cell K2.out 5).trans rfl
  have q6 := (blk_cell K2.out 6).trans rfl
  have q7 := (blk_cell K2.out 7).trans rfl
  simp only [List.getElem?_toArray, List.getElem?_cons_zero, List.getElem?_cons_succ] at q0 q1 q2 q3 q4 q5 q6 q7
  go_wp2_with fail
  clear q0 q1 q2 q3 q4 q5 q6 q7
  (with_reducible refine (FailR_c a0 a1 a2 a3 a4 a5 a6 a7 t d0 d1 d2 d3 d4 d5 d6 d7 de _ Hd.out).mono ?_)
  rintro e w2 ⟨rfl, hb⟩
  go_upto_region 11 with (fail)
  obtain ⟨g15, hg⟩ : ∃ g, g = w2.heap.size := ⟨_, rfl⟩
  rw [← hg]
  obtain ⟨W15, hX⟩ : ∃ X, X = w2.alloc (.cells #[.int .i64 d0, .int .i64 d1, .int .i64 d2, .int .i64 d3, .int .i64 d4, .int .i64 d5, .int .i64 d6, .int .i64 d7] 31) := ⟨_, rfl⟩
  rw [← hX]
  have HX : Up W13 W15 := by rw [hX]; exact hb.alloc _
  have L := (show W15.heap[g15]? = some (.cells #[.int .i64 d0, .int .i64 d1, .int .i64 d2, .int .i64 d3, .int .i64 d4, .int .i64 d5, .int .i64 d6, .int .i64 d7] 31 (0, 0)) by rw [hX, hg]; exact blk_new w2 _)
  have K2 := Aside0.mk (Up.blk HX K2.out)
  have K5 := Aside0.mk (Up.blk HX K5.out)
  have K7 := Aside0.mk (Up.blk HX K7.out)
  have K9 := Aside0.mk (Up.blk HX K9.out)
  have K11 := Aside0.mk (Up.blk HX K11.out)
  have K13 := Aside0.mk (Up.blk HX K13.out)
  have K15 := Aside0.mk L
  have HB := Aside0.mk (Up.step HB.out HX)
  clear L hX hg HX hb
  have q0 := (blk_cell K2.out 0).trans rfl
  have q1 := (blk_cell K2.out 1).trans rfl
  have q2 := (blk_cell K2.out 2).trans rfl
  have q3 := (blk_cell K2.out 3).trans rfl
  have q4 := (blk_cell K2.out 4).trans rfl
  have q5 := (blk_cell K2.out 5).trans rfl
  have q6 := (blk_cell K2.out 6).trans rfl
  have q7 := (blk_cell K2.out 7).trans rfl
  simp only [List.getElem?_toArray, List.getElem?_cons_zero, List.getElem?_cons_succ] at q0 q1 q2 q3 q4 q5 q6 q7
  go_wp2_with fail
  clear q0 q1 q2 q3 q4 q5 q6 q7
  (with_reducible refine (Repair_c a0 a1 a2 a3 a4 a5 a6 a7 t f0 f1 f2 f3 f4 f5 f6 f7 fe _ Hf.out).mono ?_)
  rintro e w2 ⟨rfl, hb⟩
  go_upto_region 12 with (fail)
  obtain ⟨g17, hg⟩ : ∃ g, g = w2.heap.size := ⟨_, rfl⟩
  rw [← hg]
  obtain ⟨W17, hX⟩ : ∃ X, X = w2.alloc (.cells #[.int .i64 f0, .int .i64 f1, .int .i64 f2, .int .i64 f3, .int .i64 f4, .int .i64 f5, .int .i64 f6, .int .i64 f7] 31) := ⟨_, rfl⟩
  rw [← hX]
  have HX : Up W15 W17 := by rw [hX]; exact hb.alloc _
  have L := (show W17.heap[g17]? = some (.cells #[.int .i64 f0, .int .i64 f1, .int .i64 f2, .int .i64 f3, .int .i64 f4, .int .i64 f5, .int .i64 f6, .int .i64 f7] 31 (0, 0)) by rw [hX, hg]; exact blk_new w2 _)
  have K2 := Aside0.mk (Up.blk HX K2.out)
  have K5 := Aside0.mk (Up.blk HX K5.out)
  have K7 := Aside0.mk (Up.blk HX K7.out)
  have K9 := Aside0.mk (Up.blk HX K9.out)
  have K11 := Aside0.mk (Up.blk HX K11.out)
  have K13 := Aside0.mk (Up.blk HX K13.out)
  have K15 := Aside0.mk (Up.blk HX K15.out)
  have K17 := Aside0.mk L
  have HB := Aside0.mk (Up.step HB.out HX)
  clear L hX hg HX hb
  have q0 := (blk_cell K2.out 0).trans rfl
  have q1 := (blk_cell K2.out 1).trans rfl
  have q2 := (blk_cell K2.out 2).trans rfl
  have q3 := (blk_cell K2.out 3).trans rfl
  have q4 := (blk_cell K2.out 4).trans rfl
  have q5 := (blk_cell K2.out 5).trans rfl
  have q6 := (blk_cell K2.out 6).trans rfl
  have q7 := (blk_cell K2.out 7).trans rfl
  simp only [List.getElem?_toArray, List.getElem?_cons_zero, List.getElem?_cons_succ] at q0 q1 q2 q3 q4 q5 q6 q7
  go_wp2_with fail
  clear q0 q1 q2 q3 q4 q5 q6 q7
  (with_reducible refine (RepairR_c a0 a1 a2 a3 a4 a5 a6 a7 t f0 f1 f2 f3 f4 f5 f6 f7 fe _ Hf.out).mono ?_)
  rintro e w2 ⟨rfl, hb⟩
  go_upto_region 13 with (fail)
  obtain ⟨g19, hg⟩ : ∃ g, g = w2.heap.size := ⟨_, rfl⟩
  rw [← hg]
  obtain ⟨W19, hX⟩ : ∃ X, X = w2.alloc (.cells #[.int .i64 f0, .int .i64 f1, .int .i64 f2, .int .i64 f3, .int .i64 f4, .int .i64 f5, .int .i64 f6, .int .i64 f7] 31) := ⟨_, rfl⟩
  rw [← hX]
  have HX : Up W17 W19 := by rw [hX]; exact hb.alloc _
  have L := (show W19.heap[g19]? = some (.cells #[.int .i64 f0, .int .i64 f1, .int .i64 f2, .int .i64 f3, .int .i64 f4, .int .i64 f5, .int .i64 f6, .int .i64 f7] 31 (0, 0)) by rw [hX, hg]; exact blk_new w2 _)
  have K2 := Aside0.mk (Up.blk HX K2.out)
  have K5 := Aside0.mk (Up.blk HX K5.out)
  have K7 := Aside0.mk (Up.blk HX K7.out)
  have K9 := Aside0.mk (Up.blk HX K9.out)
  have K11 := Aside0.mk (Up.blk HX K11.out)
  have K13 := Aside0.mk (Up.blk HX K13.out)
  have K15 := Aside0.mk (Up.blk HX K15.out)
  have K17 := Aside0.mk (Up.blk HX K17.out)
  have K19 := Aside0.mk L
  have HB := Aside0.mk (Up.step HB.out HX)
  clear L hX hg HX hb
  have x5_0 := (blk_cell K5.out 0).trans rfl
  have x5_1 := (blk_cell K5.out 1).trans rfl
  have x5_2 := (blk_cell K5.out 2).trans rfl
  have x5_3 := (blk_cell K5.out 3).trans rfl
  have x5_4 := (blk_cell K5.out 4).trans rfl
  have x5_5 := (blk_cell K5.out 5).trans rfl
  have x5_6 := (blk_cell K5.out 6).trans rfl
  have x5_7 := (blk_cell K5.out 7).trans rfl
  simp only [List.getElem?_toArray, List.getElem?_cons_zero, List.getElem?_cons_succ] at x5_0 x5_1 x5_2 x5_3 x5_4 x5_5 x5_6 x5_7
  have x7_0 := (blk_cell K7.out 0).trans rfl
  have x7_1 := (blk_cell K7.out 1).trans rfl
  have x7_2 := (blk_cell K7.out 2).trans rfl
  have x7_3 := (blk_cell K7.out 3).trans rfl
  have x7_4 := (blk_cell K7.out 4).trans rfl
  have x7_5 := (blk_cell K7.out 5).trans rfl
  have x7_6 := (blk_cell K7.out 6).trans rfl
  have x7_7 := (blk_cell K7.out 7).trans rfl
  simp only [List.getElem?_toArray, List.getElem?_cons_zero, List.getElem?_cons_succ] at x7_0 x7_1 x7_2 x7_3 x7_4 x7_5 x7_6 x7_7
  have x9_0 := (blk_cell K9.out 0).trans rfl
  have x9_1 := (blk_cell K9.out 1).trans rfl
  have x9_2 := (blk_cell K9.out 2).trans rfl
  have x9_3 := (blk_cell K9.out 3).trans rfl
  have x9_4 := (blk_cell K9.out 4).trans rfl
  have x9_5 := (blk_cell K9.out 5).trans rfl
  have x9_6 := (blk_cell K9.out 6).trans rfl
  have x9_7 := (blk_cell K9.out 7).trans rfl
  simp only [List.getElem?_toArray, List.getElem?_cons_zero, List.getElem?_cons_succ] at x9_0 x9_1 x9_2 x9_3 x9_4 x9_5 x9_6 x9_7
  have x11_0 := (blk_cell K11.out 0).trans rfl
  have x11_1 := (blk_cell K11.out 1).trans rfl
  have x11_2 := (blk_cell K11.out 2).trans rfl
  have x11_3 := (blk_cell K11.out 3).trans rfl
  have x11_4 := (blk_cell K11.out 4).trans rfl
  have x11_5 := (blk_cell K11.out 5).trans rfl
  have x11_6 := (blk_cell K11.out 6).trans rfl
  have x11_7 := (blk_cell K11.out 7).trans rfl
  simp only [List.getElem?_toArray, List.getElem?_cons_zero, List.getElem?_cons_succ] at x11_0 x11_1 x11_2 x11_3 x11_4 x11_5 x11_6 x11_7
  have x13_0 := (blk_cell K13.out 0).trans rfl
  have x13_1 := (blk_cell K13.out 1).trans rfl
  have x13_2 := (blk_cell K13.out 2).trans rfl
  have x13_3 := (blk_cell K13.out 3).trans rfl
  have x13_4 := (blk_cell K13.out 4).trans rfl
  have x13_5 := (blk_cell K13.out 5).trans rfl
  have x13_6 := (blk_cell K13.out 6).trans rfl
  have x13_7 := (blk_cell K13.out 7).trans rfl
  simp only [List.getElem?_toArray, List.getElem?_cons_zero, List.getElem?_cons_succ] at x13_0 x13_1 x13_2 x13_3 x13_4 x13_5 x13_6 x13_7
  have x15_0 := (blk_cell K15.out 0).trans rfl
  have x15_1 := (blk_cell K15.out 1).trans rfl
  have x15_2 := (blk_cell K15.out 2).trans rfl
  have x15_3 := (blk_cell K15.out 3).trans rfl
  have x15_4 := (blk_cell K15.out 4).trans rfl
  have x15_5 := (blk_cell K15.out 5).trans rfl
  have x15_6 := (blk_cell K15.out 6).trans rfl
  have x15_7 := (blk_cell K15.out 7).trans rfl
  simp only [List.getElem?_toArray, List.getElem?_cons_zero, List.getElem?_cons_succ] at x15_0 x15_1 x15_2 x15_3 x15_4 x15_5 x15_6 x15_7
  have x17_0 := (blk_cell K17.out 0).trans rfl
  have x17_1 := (blk_cell K17.out 1).trans rfl
  have x17_2 := (blk_cell K17.out 2).trans rfl
  have x17_3 := (blk_cell K17.out 3).trans rfl
  have x17_4 := (blk_cell K17.out 4).trans rfl
  have x17_5 := (blk_cell K17.out 5).trans rfl
  have x17_6 := (blk_cell K17.out 6).trans rfl
  have x17_7 := (blk_cell K17.out 7).trans rfl
  simp only [List.getElem?_toArray, List.getElem?_cons_zero, List.getElem?_cons_succ] at x17_0 x17_1 x17_2 x17_3 x17_4 x17_5 x17_6 x17_7
  have x19_0 := (blk_cell K19.out 0).trans rfl
  have x19_1 := (blk_cell K19.out 1).trans rfl
  have x19_2 := (blk_cell K19.out 2).trans rfl
  have x19_3 := (blk_cell K19.out 3).trans rfl
  have x19_4 := (blk_cell K19.out 4).trans rfl
  have x19_5 := (blk_cell K19.out 5).trans rfl
  have x19_6 := (blk_cell K19.out 6).trans rfl
  have x19_7 := (blk_cell K19.out 7).trans rfl
  simp only [List.getElem?_toArray, List.getElem?_cons_zero, List.getElem?_cons_succ] at x19_0 x19_1 x19_2 x19_3 x19_4 x19_5 x19_6 x19_7
  go_wp2
  go_ret
  exact ⟨ret_b (by simp), HB.out⟩

end Go.Proofs.Ytahcalhpigmbgaa.H
