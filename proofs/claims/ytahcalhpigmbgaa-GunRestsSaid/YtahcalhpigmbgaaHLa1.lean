import Derived.Test.YtahcalhpigmbgaaHK
import Derived.Test.YtahcalhpigmbgaaHLa0
namespace Go.Proofs.Ytahcalhpigmbgaa.H
open Go.RowKit Go.Proofs.YtahcalhpigmbgaaW.PrintWords Go.Proofs.YtahcalhpigmbgaaW.PrintLast Go.Proofs.YtahcalhpigmbgaaW.PrintMore
set_option linter.unusedVariables false
set_option linter.unusedSimpArgs false
/-! alive: the examples of the chapter hold -/
set_option maxHeartbeats 16000000 in
set_option maxRecDepth 100000 in
theorem alive_c (w : World) : Calls Try.prog 9 #[] w fun e w' => e = .returned (.bool true) ∧ Up w w' := by
  have hu := Try.underlying39
  have hu2 := Try.underlying31
  have hu3 := Try.underlying53
  have HB := Up.refl w
  go_enter Try.func9, Try.ntmps9
  go_wp2_with fail
  (with_reducible refine (kind_c _).mono ?_)
  rintro e w1 ⟨A, rfl, hC, hb⟩
  go_upto_region 2 with (fail)
  have HB := Up.step HB hb
  clear hb
  obtain ⟨g1, hg1⟩ : ∃ g, g = w1.heap.size := ⟨_, rfl⟩
  rw [← hg1]
  obtain ⟨W0, hW⟩ : ∃ W, W = w1.alloc (.cells #[.int .i64 1, .slice A ptsK.length 3, .int .i64 20000, .int .i64 25000] 39) := ⟨_, rfl⟩
  rw [← hW]
  have K1 := Aside0.mk (show W0.heap[g1]? = some (.cells #[.int .i64 1, .slice A ptsK.length 3, .int .i64 20000, .int .i64 25000] 39 (0, 0)) by rw [hW, hg1]; exact blk_new w1 _)
  have HC := Aside0.mk (show Kd.C kPoint W0 A ptsK.length ptsK by rw [hW]; exact C_up hC ((Up.refl w1).alloc _))
  have HB := show Up w W0 by rw [hW]; exact HB.alloc _
  clear hW hg1 hC
  go_wp2_with fail
  (with_reducible refine (off_c _).mono ?_)
  rintro e W' ⟨rfl, HX⟩
  go_wp2_with fail
  (with_reducible refine (Start_c 7 3 12 1 0 1000 600 900 1899 0 0 0 0 0 0 0 0 13 _ al0).mono ?_)
  rintro e w2 ⟨rfl, hb⟩
  have HX := Up.step HX hb
  clear hb
  go_upto_region 3 with (fail)
  obtain ⟨g2, hg⟩ : ∃ g, g = w2.heap.size := ⟨_, rfl⟩
  rw [← hg]
  obtain ⟨W1, hX⟩ : ∃ X, X = w2.alloc (.cells #[.int .i64 0, .int .i64 0, .int .i64 0, .int .i64 0, .int .i64 0, .int .i64 0, .int .i64 0, .int .i64 0] 31) := ⟨_, rfl⟩
  rw [← hX]
  have HX : Up W0 W1 := by rw [hX]; exact HX.alloc _
  have K1 := Aside0.mk (Up.blk HX K1.out)
  have HC := Aside0.mk (C_up HC.out HX)
  have HB := Up.step HB HX
  clear hX hg HX
  go_wp2_with fail
  (with_reducible refine (off_c _).mono ?_)
  rintro e W' ⟨rfl, HX⟩
  go_wp2_with fail
  (with_reducible refine (Start_c 7 3 12 1 0 1000 600 900 1900 7 3 12 1 1 1900 600 900 0 _ al1).mono ?_)
  rintro e w2 ⟨rfl, hb⟩
  have HX := Up.step HX hb
  clear hb
  go_upto_region 4 with (fail)
  obtain ⟨g4, hg⟩ : ∃ g, g = w2.heap.size := ⟨_, rfl⟩
  rw [← hg]
  obtain ⟨W2, hX⟩ : ∃ X, X = w2.alloc (.cells #[.int .i64 7, .int .i64 3, .int .i64 12, .int .i64 1, .int .i64 1, .int .i64 1900, .int .i64 600, .int .i64 900] 31) := ⟨_, rfl⟩
  rw [← hX]
  have HX : Up W1 W2 := by rw [hX]; exact HX.alloc _
  have L4 := (show W2.heap[g4]? = some (.cells #[.int .i64 7, .int .i64 3, .int .i64 12, .int .i64 1, .int .i64 1, .int .i64 1900, .int .i64 600, .int .i64 900] 31 (0, 0)) by rw [hX, hg]; exact blk_new w2 _)
  have K1 := Aside0.mk (Up.blk HX K1.out)
  have K4 := Aside0.mk L4
  clear L4
  have HC := Aside0.mk (C_up HC.out HX)
  have HB := Up.step HB HX
  clear hX hg HX
  have q0 := (blk_cell K4.out 0).trans rfl
  have q1 := (blk_cell K4.out 1).trans rfl
  have q2 := (blk_cell K4.out 2).trans rfl
  have q3 := (blk_cell K4.out 3).trans rfl
  have q4 := (blk_cell K4.out 4).trans rfl
  have q5 := (blk_cell K4.out 5).trans rfl
  have q6 := (blk_cell K4.out 6).trans rfl
  have q7 := (blk_cell K4.out 7).trans rfl
  simp only [List.getElem?_toArray, List.getElem?_cons_zero, List.getElem?_cons_succ] at q0 q1 q2 q3 q4 q5 q6 q7
  go_wp2_with fail
  clear q0 q1 q2 q3 q4 q5 q6 q7
  have HX := Up.refl W2
  (with_reducible refine (Stop_c 7 3 12 1 1 1900 600 900 2499 0 0 0 0 0 0 0 0 13 _ al2).mono ?_)
  rintro e w2 ⟨rfl, hb⟩
  have HX := Up.step HX hb
  clear hb
  go_upto_region 5 with (fail)
  obtain ⟨g6, hg⟩ : ∃ g, g = w2.heap.size := ⟨_, rfl⟩
  rw [← hg]
  obtain ⟨W3, hX⟩ : ∃ X, X = w2.alloc (.cells #[.int .i64 0, .int .i64 0, .int .i64 0, .int .i64 0, .int .i64 0, .int .i64 0, .int .i64 0, .int .i64 0] 31) := ⟨_, rfl⟩
  rw [← hX]
  have HX : Up W2 W3 := by rw [hX]; exact HX.alloc _
  have K1 := Aside0.mk (Up.blk HX K1.out)
  have K4 := Aside0.mk (Up.blk HX K4.out)
  have HC := Aside0.mk (C_up HC.out HX)
  have HB := Up.step HB HX
  clear hX hg HX
  have q0 := (blk_cell K4.out 0).trans rfl
  have q1 := (blk_cell K4.out 1).trans rfl
  have q2 := (blk_cell K4.out 2).trans rfl
  have q3 := (blk_cell K4.out 3).trans rfl
  have q4 := (blk_cell K4.out 4).trans rfl
  have q5 := (blk_cell K4.out 5).trans rfl
  have q6 := (blk_cell K4.out 6).trans rfl
  have q7 := (blk_cell K4.out 7).trans rfl
  simp only [List.getElem?_toArray, List.getElem?_cons_zero, List.getElem?_cons_succ] at q0 q1 q2 q3 q4 q5 q6 q7
  go_wp2_with fail
  clear q0 q1 q2 q3 q4 q5 q6 q7
  have HX := Up.refl W3
  (with_reducible refine (Stop_c 7 3 12 1 1 1900 600 900 2500 7 3 12 1 0 2500 600 900 0 _ al3).mono ?_)
  rintro e w2 ⟨rfl, hb⟩
  have HX := Up.step HX hb
  clear hb
  go_upto_region 6 with (fail)
  obtain ⟨g8, hg⟩ : ∃ g, g = w2.heap.size := ⟨_, rfl⟩
  rw [← hg]
  obtain ⟨W4, hX⟩ : ∃ X, X = w2.alloc (.cells #[.int .i64 7, .int .i64 3, .int .i64 12, .int .i64 1, .int .i64 0, .int .i64 2500, .int .i64 600, .int .i64 900] 31) := ⟨_, rfl⟩
  rw [← hX]
  have HX : Up W3 W4 := by rw [hX]; exact HX.alloc _
  have L8 := (show W4.heap[g8]? = some (.cells #[.int .i64 7, .int .i64 3, .int .i64 12, .int .i64 1, .int .i64 0, .int .i64 2500, .int .i64 600, .int .i64 900] 31 (0, 0)) by rw [hX, hg]; exact blk_new w2 _)
  have K1 := Aside0.mk (Up.blk HX K1.out)
  have K4 := Aside0.mk (Up.blk HX K4.out)
  have K8 := Aside0.mk L8
  clear L8
  have HC := Aside0.mk (C_up HC.out HX)
  have HB := Up.step HB HX
  clear hX hg HX
  have q0 := (blk_cell K4.out 0).trans rfl
  have q1 := (blk_cell K4.out 1).trans rfl
  have q2 := (blk_cell K4.out 2).trans rfl
  have q3 := (blk_cell K4.out 3).trans rfl
  have q4 := (blk_cell K4.out 4).trans rfl
  have q5 := (blk_cell K4.out 5).trans rfl
  have q6 := (blk_cell K4.out 6).trans rfl
  have q7 := (blk_cell K4.out 7).trans rfl
  simp only [List.getElem?_toArray, List.getElem?_cons_zero, List.getElem?_cons_succ] at q0 q1 q2 q3 q4 q5 q6 q7
  go_wp2_with fail
  clear q0 q1 q2 q3 q4 q5 q6 q7
  have HX := Up.refl W4
  (with_reducible refine (Fail_c 7 3 12 1 1 1900 600 900 2000 7 3 12 1 2 2000 600 900 0 _ al4).mono ?_)
  rintro e w2 ⟨rfl, hb⟩
  have HX := Up.step HX hb
  clear hb
  go_upto_region 7 with (fail)
  obtain ⟨g10, hg⟩ : ∃ g, g = w2.heap.size := ⟨_, rfl⟩
  rw [← hg]
  obtain ⟨W5, hX⟩ : ∃ X, X = w2.alloc (.cells #[.int .i64 7, .int .i64 3, .int .i64 12, .int .i64 1, .int .i64 2, .int .i64 2000, .int .i64 600, .int .i64 900] 31) := ⟨_, rfl⟩
  rw [← hX]
  have HX : Up W4 W5 := by rw [hX]; exact HX.alloc _
  have L10 := (show W5.heap[g10]? = some (.cells #[.int .i64 7, .int .i64 3, .int .i64 12, .int .i64 1, .int .i64 2, .int .i64 2000, .int .i64 600, .int .i64 900] 31 (0, 0)) by rw [hX, hg]; exact blk_new w2 _)
  have K1 := Aside0.mk (Up.blk HX K1.out)
  have K4 := Aside0.mk (Up.blk HX K4.out)
  have K8 := Aside0.mk (Up.blk HX K8.out)
  have K10 := Aside0.mk L10
  clear L10
  have HC := Aside0.mk (C_up HC.out HX)
  have HB := Up.step HB HX
  clear hX hg HX
  have q0 := (blk_cell K10.out 0).trans rfl
  have q1 := (blk_cell K10.out 1).trans rfl
  have q2 := (blk_cell K10.out 2).trans rfl
  have q3 := (blk_cell K10.out 3).trans rfl
  have q4 := (blk_cell K10.out 4).trans rfl
  have q5 := (blk_cell K10.out 5).trans rfl
  have q6 := (blk_cell K10.out 6).trans rfl
  have q7 := (blk_cell K10.out 7).trans rfl
  simp only [List.getElem?_toArray, List.getElem?_cons_zero, List.getElem?_cons_succ] at q0 q1 q2 q3 q4 q5 q6 q7
  go_wp2_with fail
  clear q0 q1 q2 q3 q4 q5 q6 q7
  have HX := Up.refl W5
  (with_reducible refine (Repair_c 7 3 12 1 2 2000 600 900 2100 7 3 12 1 0 2100 600 900 0 _ al5).mono ?_)
  rintro e w2 ⟨rfl, hb⟩
  have HX := Up.step HX hb
  clear hb
  go_upto_region 8 with (fail)
  obtain ⟨g12, hg⟩ : ∃ g, g = w2.heap.size := ⟨_, rfl⟩
  rw [← hg]
  obtain ⟨W6, hX⟩ : ∃ X, X = w2.alloc (.cells #[.int .i64 7, .int .i64 3, .int .i64 12, .int .i64 1, .int .i64 0, .int .i64 2100, .int .i64 600, .int .i64 900] 31) := ⟨_, rfl⟩
  rw [← hX]
  have HX : Up W5 W6 := by rw [hX]; exact HX.alloc _
  have L12 := (show W6.heap[g12]? = some (.cells #[.int .i64 7, .int .i64 3, .int .i64 12, .int .i64 1, .int .i64 0, .int .i64 2100, .int .i64 600, .int .i64 900] 31 (0, 0)) by rw [hX, hg]; exact blk_new w2 _)
  have K1 := Aside0.mk (Up.blk HX K1.out)
  have K4 := Aside0.mk (Up.blk HX K4.out)
  have K8 := Aside0.mk (Up.blk HX K8.out)
  have K10 := Aside0.mk (Up.blk HX K10.out)
  have K12 := Aside0.mk L12
  clear L12
  have HC := Aside0.mk (C_up HC.out HX)
  have HB := Up.step HB HX
  clear hX hg HX
  have q0 := (blk_cell K12.out 0).trans rfl
  have q1 := (blk_cell K12.out 1).trans rfl
  have q2 := (blk_cell K12.out 2).trans rfl
  have q3 := (blk_cell K12.out 3).trans rfl
  have q4 := (blk_cell K12.out 4).trans rfl
  have q5 := (blk_cell K12.out 5).trans rfl
  have q6 := (blk_cell K12.out 6).trans rfl
  have q7 := (blk_cell K12.out 7).trans rfl
  simp only [List.getElem?_toArray, List.getElem?_cons_zero, List.getElem?_cons_succ] at q0 q1 q2 q3 q4 q5 q6 q7
  go_wp2_with fail
  clear q0 q1 q2 q3 q4 q5 q6 q7
  have HX := Up.refl W6
  (with_reducible refine (Start_c 7 3 12 1 0 2100 600 900 2999 0 0 0 0 0 0 0 0 13 _ al6).mono ?_)
  rintro e w2 ⟨rfl, hb⟩
  have HX := Up.step HX hb
  clear hb
  go_upto_region 9 with (fail)
  obtain ⟨g14, hg⟩ : ∃ g, g = w2.heap.size := ⟨_, rfl⟩
  rw [← hg]
  obtain ⟨W7, hX⟩ : ∃ X, X = w2.alloc (.cells #[.int .i64 0, .int .i64 0, .int .i64 0, .int .i64 0, .int .i64 0, .int .i64 0, .int .i64 0, .int .i64 0] 31) := ⟨_, rfl⟩
  rw [← hX]
  have HX : Up W6 W7 := by rw [hX]; exact HX.alloc _
  have K1 := Aside0.mk (Up.blk HX K1.out)
  have K4 := Aside0.mk (Up.blk HX K4.out)
  have K8 := Aside0.mk (Up.blk HX K8.out)
  have K10 := Aside0.mk (Up.blk HX K10.out)
  have K12 := Aside0.mk (Up.blk HX K12.out)
  have HC := Aside0.mk (C_up HC.out HX)
  have HB := Up.step HB HX
  clear hX hg HX
  have q0 := (blk_cell K12.out 0).trans rfl
  have q1 := (blk_cell K12.out 1).trans rfl
  have q2 := (blk_cell K12.out 2).trans rfl
  have q3 := (blk_cell K12.out 3).trans rfl
  have q4 := (blk_cell K12.out 4).trans rfl
  have q5 := (blk_cell K12.out 5).trans rfl
  have q6 := (blk_cell K12.out 6).trans rfl
  have q7 := (blk_cell K12.out 7).trans rfl
  simp only [List.getElem?_toArray, List.getElem?_cons_zero, List.getElem?_cons_succ] at q0 q1 q2 q3 q4 q5 q6 q7
  go_wp2_with fail
  clear q0 q1 q2 q3 q4 q5 q6 q7
  have HX := Up.refl W7
  (with_reducible refine (Start_c 7 3 12 1 0 2100 600 900 3000 7 3 12 1 1 3000 600 900 0 _ al7).mono ?_)
  rintro e w2 ⟨rfl, hb⟩
  have HX := Up.step HX hb
  clear hb
  go_upto_region 10 with (fail)
  obtain ⟨g16, hg⟩ : ∃ g, g = w2.heap.size := ⟨_, rfl⟩
  rw [← hg]
  obtain ⟨W8, hX⟩ : ∃ X, X = w2.alloc (.cells #[.int .i64 7, .int .i64 3, .int .i64 12, .int .i64 1, .int .i64 1, .int .i64 3000, .int .i64 600, .int .i64 900] 31) := ⟨_, rfl⟩
  rw [← hX]
  have HX : Up W7 W8 := by rw [hX]; exact HX.alloc _
  have K1 := Aside0.mk (Up.blk HX K1.out)
  have K4 := Aside0.mk (Up.blk HX K4.out)
  have K8 := Aside0.mk (Up.blk HX K8.out)
  have K10 := Aside0.mk (Up.blk HX K10.out)
  have K12 := Aside0.mk (Up.blk HX K12.out)
  have HC := Aside0.mk (C_up HC.out HX)
  have HB := Up.step HB HX
  clear hX hg HX
  have q0 := (blk_cell K1.out 0).trans rfl
  have q1 := (blk_cell K1.out 1).trans rfl
  have q2 := (blk_cell K1.out 2).trans rfl
  have q3 := (blk_cell K1.out 3).trans rfl
  simp only [List.getElem?_toArray, List.getElem?_cons_zero, List.getElem?_cons_succ] at q0 q1 q2 q3
  go_wp2_with fail
  clear q0 q1 q2 q3
  (with_reducible refine (Output_c kindLaw A 3 (-60) 175 _ al8 HC.out).mono ?_)
  rintro e V0 ⟨rfl, hb⟩
  have K1 := Aside0.mk (Up.blk hb K1.out)
  have K4 := Aside0.mk (Up.blk hb K4.out)
  have K8 := Aside0.mk (Up.blk hb K8.out)
  have K10 := Aside0.mk (Up.blk hb K10.out)
  have K12 := Aside0.mk (Up.blk hb K12.out)
  have HC := Aside0.mk (C_up HC.out hb)
  have HB := Up.step HB hb
  clear hb
  have q0 := (blk_cell K1.out 0).trans rfl
  have q1 := (blk_cell K1.out 1).trans rfl
  have q2 := (blk_cell K1.out 2).trans rfl
  have q3 := (blk_cell K1.out 3).trans rfl
  simp only [List.getElem?_toArray, List.getElem?_cons_zero, List.getElem?_cons_succ] at q0 q1 q2 q3
  go_wp2_with fail
  clear q0 q1 q2 q3
  (with_reducible refine (Output_c kindLaw A 3 (-150) 300 _ al9 HC.out).mono ?_)
  rintro e V1 ⟨rfl, hb⟩
  have K1 := Aside0.mk (Up.blk hb K1.out)
  have K4 := Aside0.mk (Up.blk hb K4.out)
  have K8 := Aside0.mk (Up.blk hb K8.out)
  have K10 := Aside0.mk (Up.blk hb K10.out)
  have K12 := Aside0.mk (Up.blk hb K12.out)
  have HC := Aside0.mk (C_up HC.out hb)
  have HB := Up.step HB hb
  clear hb
  have q0 := (blk_cell K1.out 0).trans rfl
  have q1 := (blk_cell K1.out 1).trans rfl
  have q2 := (blk_cell K1.out 2).trans rfl
  have q3 := (blk_cell K1.out 3).trans rfl
  simp only [List.getElem?_toArray, List.getElem?_cons_zero, List.getElem?_cons_succ] at q0 q1 q2 q3
  go_wp2_with fail
  clear q0 q1 q2 q3
  (with_reducible refine (Output_c kindLaw A 3 (30) 0 _ al10 HC.out).mono ?_)
  rintro e V2 ⟨rfl, hb⟩
  have K1 := Aside0.mk (Up.blk hb K1.out)
  have K4 := Aside0.mk (Up.blk hb K4.out)
  have K8 := Aside0.mk (Up.blk hb K8.out)
  have K10 := Aside0.mk (Up.blk hb K10.out)
  have K12 := Aside0.mk (Up.blk hb K12.out)
  have HC := Aside0.mk (C_up HC.out hb)
  have HB := Up.step HB hb
  clear hb
  go_upto_region 12 with (fail)
  have q0 := (blk_cell K1.out 0).trans rfl
  have q1 := (blk_cell K1.out 1).trans rfl
  have q2 := (blk_cell K1.out 2).trans rfl
  have q3 := (blk_cell K1.out 3).trans rfl
  simp only [List.getElem?_toArray, List.getElem?_cons_zero, List.getElem?_cons_succ] at q0 q1 q2 q3
  have p0 := (blk_cell K4.out 0).trans rfl
  have p1 := (blk_cell K4.out 1).trans rfl
  have p2 := (blk_cell K4.out 2).trans rfl
  have p3 := (blk_cell K4.out 3).trans rfl
  have p4 := (blk_cell K4.out 4).trans rfl
  have p5 := (blk_cell K4.out 5).trans rfl
  have p6 := (blk_cell K4.out 6).trans rfl
  have p7 := (blk_cell K4.out 7).trans rfl
  simp only [List.getElem?_toArray, List.getElem?_cons_zero, List.getElem?_cons_succ] at p0 p1 p2 p3 p4 p5 p6 p7
  have r0 := fun ob => (blk_cell (blk_alloc K1.out ob) 0).trans rfl
  have r1 := fun ob => (blk_cell (blk_alloc K1.out ob) 1).trans rfl
  have r2 := fun ob => (blk_cell (blk_alloc K1.out ob) 2).trans rfl
  have r3 := fun ob => (blk_cell (blk_alloc K1.out ob) 3).trans rfl
  simp only [List.getElem?_toArray, List.getElem?_cons_zero, List.getElem?_cons_succ] at r0 r1 r2 r3
  have s0 := fun ob => (blk_cell (blk_alloc K4.out ob) 0).trans rfl
  have s1 := fun ob => (blk_cell (blk_alloc K4.out ob) 1).trans rfl
  have s2 := fun ob => (blk_cell (blk_alloc K4.out ob) 2).trans rfl
  have s3 := fun ob => (blk_cell (blk_alloc K4.out ob) 3).trans rfl
  have s4 := fun ob => (blk_cell (blk_alloc K4.out ob) 4).trans rfl
  have s5 := fun ob => (blk_cell (blk_alloc K4.out ob) 5).trans rfl
  have s6 := fun ob => (blk_cell (blk_alloc K4.out ob) 6).trans rfl
  have s7 := fun ob => (blk_cell (blk_alloc K4.out ob) 7).trans rfl
  simp only [List.getElem?_toArray, List.getElem?_cons_zero, List.getElem?_cons_succ] at s0 s1 s2 s3 s4 s5 s6 s7
  go_region
  · generalize hX : World.drew _ = X
    obtain ⟨ga, hga⟩ : ∃ g, g = V2.heap.size := ⟨_, rfl⟩
    rw [← hga]
    obtain ⟨gb, hgb⟩ : ∃ g, g = ga + 1 := ⟨_, rfl⟩
    rw [← hgb]
    have HX : Up V2 X := by rw [← hX]; exact (((Up.refl V2).alloc _).alloc _).drew
    have ka : X.heap[ga]? = some (.cells #[.int .i64 1, .slice A ptsK.length 3, .int .i64 20000, .int .i64 25000] 39 (0, 0)) := by rw [← hX, hga]; exact blk_drew (blk_alloc (blk_new V2 _) _)
    have kb : X.heap[gb]? = some (.cells #[.int .i64 7, .int .i64 3, .int .i64 12, .int .i64 1, .int .i64 1, .int .i64 1900, .int .i64 600, .int .i64 900] 31 (0, 0)) := by rw [← hX, hgb, hga]; exact blk_drew (blk_2 V2 _ _)
    have HK := Aside0.mk (C_one_Kind kindLaw ka (by decide) (C_up HC.out HX))
    have HG := Aside0.mk (C_one_Gun gunA kb)
    have K4 := Aside0.mk (Up.blk HX K4.out)
    have K8 := Aside0.mk (Up.blk HX K8.out)
    have K10 := Aside0.mk (Up.blk HX K10.out)
    have K12 := Aside0.mk (Up.blk HX K12.out)
    have HB := Up.step HB HX
    clear hX hga hgb ka kb HX q0 q1 q2 q3 p0 p1 p2 p3 p4 p5 p6 p7 r0 r1 r2 r3 s0 s1 s2 s3 s4 s5 s6 s7
    go_wp2_with fail
    (with_reducible refine (aliveDraws HK.out HG.out).mono ?_)
    rintro e X1 ⟨D1, d1, rfl, hD, hb⟩
    have HD := Aside0.mk hD
    clear hD
    have K4 := Aside0.mk (Up.blk hb K4.out)
    have K8 := Aside0.mk (Up.blk hb K8.out)
    have K10 := Aside0.mk (Up.blk hb K10.out)
    have K12 := Aside0.mk (Up.blk hb K12.out)
    have HB := Up.step HB hb
    have HK := Aside0.mk (C_up HK.out hb)
    have HG := Aside0.mk (C_up HG.out hb)
    clear hb
    go_wp2_with fail
    (with_reducible refine (aliveNeeds HK.out HG.out).mono ?_)
    rintro e X2 ⟨E1, e1, rfl, hD, hb⟩
    have HE := Aside0.mk hD
    clear hD
    have K4 := Aside0.mk (Up.blk hb K4.out)
    have K8 := Aside0.mk (Up.blk hb K8.out)
    have K10 := Aside0.mk (Up.blk hb K10.out)
    have K12 := Aside0.mk (Up.blk hb K12.out)
    have HB := Up.step HB hb
    have HK := Aside0.mk (C_up HK.out hb)
    have HG := Aside0.mk (C_up HG.out hb)
    have HD := Aside0.mk (C_up HD.out hb)
    clear hb
    have c4_4 := (blk_cell K4.out 4).trans rfl
    have c8_4 := (blk_cell K8.out 4).trans rfl
    have c8_5 := (blk_cell K8.out 5).trans rfl
    have c10_4 := (blk_cell K10.out 4).trans rfl
    have c12_5 := (blk_cell K12.out 5).trans rfl
    simp only [List.getElem?_toArray, List.getElem?_cons_zero, List.getElem?_cons_succ] at c4_4 c8_4 c8_5 c10_4 c12_5
    go_upto_region 14 with (fail)
    go_wp2_with fail
    (with_reducible refine (aliveSame ⟨3, 175⟩ al16 (C_up HD.out ((Up.refl _).alloc _)) (C_one_Draw ⟨3, 175⟩ (blk_new _ _))).mono ?_)
    rintro e Y175 ⟨rfl, hb⟩
    have hb := Up.step ((Up.refl _).alloc _) hb
    have HK := Aside0.mk (C_up HK.out hb)
    have HG := Aside0.mk (C_up HG.out hb)
    have HD := Aside0.mk (C_up HD.out hb)
    have HE := Aside0.mk (C_up HE.out hb)
    have HB := Up.step HB hb
    clear hb
    clear c4_4 c8_4 c8_5 c10_4 c12_5
    go_wp2_with fail
    (with_reducible refine (aliveSame ⟨3, 25000⟩ al17 (C_up HE.out ((Up.refl _).alloc _)) (C_one_Draw ⟨3, 25000⟩ (blk_new _ _))).mono ?_)
    rintro e Y25000 ⟨rfl, hb⟩
    have hb := Up.step ((Up.refl _).alloc _) hb
    have HK := Aside0.mk (C_up HK.out hb)
    have HG := Aside0.mk (C_up HG.out hb)
    have HD := Aside0.mk (C_up HD.out hb)
    have HE := Aside0.mk (C_up HE.out hb)
    have HB := Up.step HB hb
    clear hb
    go_wp2_with fail
    (with_reducible refine (alivePower HK.out HG.out).mono ?_)
    rintro e Z1 ⟨rfl, hb⟩
    have HK := Aside0.mk (C_up HK.out hb)
    have HG := Aside0.mk (C_up HG.out hb)
    have HB := Up.step HB hb
    clear hb
    go_wp2_with fail
    (with_reducible refine (aliveRight HK.out HG.out).mono ?_)
    rintro e Z2 ⟨rfl, hb⟩
    have HK := Aside0.mk (C_up HK.out hb)
    have HG := Aside0.mk (C_up HG.out hb)
    have HB := Up.step HB hb
    clear hb
    go_wp2_with fail
    (with_reducible refine (aliveRight0 HG.out).mono ?_)
    rintro e Z3 ⟨rfl, hb⟩
    have HK := Aside0.mk (C_up HK.out hb)
    have HG := Aside0.mk (C_up HG.out hb)
    have HB := Up.step HB hb
    clear hb
    go_wp2
    go_ret
    exact ⟨rfl, HB⟩
  · generalize hX : World.drew _ = X
    obtain ⟨ga, hga⟩ : ∃ g, g = V2.heap.size := ⟨_, rfl⟩
    rw [← hga]
    obtain ⟨gb, hgb⟩ : ∃ g, g = ga + 1 := ⟨_, rfl⟩
    rw [← hgb]
    have HX : Up V2 X := by rw [← hX]; exact (((Up.refl V2).alloc _).alloc _).drew
    have ka : X.heap[ga]? = some (.cells #[.int .i64 7, .int .i64 3, .int .i64 12, .int .i64 1, .int .i64 1, .int .i64 1900, .int .i64 600, .int .i64 900] 31 (0, 0)) := by rw [← hX, hga]; exact blk_drew (blk_alloc (blk_new V2 _) _)
    have kb : X.heap[gb]? = some (.cells #[.int .i64 1, .slice A ptsK.length 3, .int .i64 20000, .int .i64 25000] 39 (0, 0)) := by rw [← hX, hgb, hga]; exact blk_drew (blk_2 V2 _ _)
    have HK := Aside0.mk (C_one_Kind kindLaw kb (by decide) (C_up HC.out HX))
    have HG := Aside0.mk (C_one_Gun gunA ka)
    have K4 := Aside0.mk (Up.blk HX K4.out)
    have K8 := Aside0.mk (Up.blk HX K8.out)
    have K10 := Aside0.mk (Up.blk HX K10.out)
    have K12 := Aside0.mk (Up.blk HX K12.out)
    have HB := Up.step HB HX
    clear hX hga hgb ka kb HX q0 q1 q2 q3 p0 p1 p2 p3 p4 p5 p6 p7 r0 r1 r2 r3 s0 s1 s2 s3 s4 s5 s6 s7
    go_wp2_with fail
    (with_reducible refine (aliveDraws HK.out HG.out).mono ?_)
    rintro e X1 ⟨D1, d1, rfl, hD, hb⟩
    have HD := Aside0.mk hD
    clear hD
    have K4 := Aside0.mk (Up.blk hb K4.out)
    have K8 := Aside0.mk (Up.blk hb K8.out)
    have K10 := Aside0.mk (Up.blk hb K10.out)
    have K12 := Aside0.mk (Up.blk hb K12.out)
    have HB := Up.step HB hb
    have HK := Aside0.mk (C_up HK.out hb)
    have HG := Aside0.mk (C_up HG.out hb)
    clear hb
    go_wp2_with fail
    (with_reducible refine (aliveNeeds HK.out HG.out).mono ?_)
    rintro e X2 ⟨E1, e1, rfl, hD, hb⟩
    have HE := Aside0.mk hD
    clear hD
    have K4 := Aside0.mk (Up.blk hb K4.out)
    have K8 := Aside0.mk (Up.blk hb K8.out)
    have K10 := Aside0.mk (Up.blk hb K10.out)
    have K12 := Aside0.mk (Up.blk hb K12.out)
    have HB := Up.step HB hb
    have HK := Aside0.mk (C_up HK.out hb)
    have HG := Aside0.mk (C_up HG.out hb)
    have HD := Aside0.mk (C_up HD.out hb)
    clear hb
    have c4_4 := (blk_cell K4.out 4).trans rfl
    have c8_4 := (blk_cell K8.out 4).trans rfl
    have c8_5 := (blk_cell K8.out 5).trans rfl
    have c10_4 := (blk_cell K10.out 4).trans rfl
    have c12_5 := (blk_cell K12.out 5).trans rfl
    simp only [List.getElem?_toArray, List.getElem?_cons_zero, List.getElem?_cons_succ] at c4_4 c8_4 c8_5 c10_4 c12_5
    go_upto_region 14 with (fail)
    go_wp2_with fail
    (with_reducible refine (aliveSame ⟨3, 175⟩ al16 (C_up HD.out ((Up.refl _).alloc _)) (C_one_Draw ⟨3, 175⟩ (blk_new _ _))).mono ?_)
    rintro e Y175 ⟨rfl, hb⟩
    have hb := Up.step ((Up.refl _).alloc _) hb
    have HK := Aside0.mk (C_up HK.out hb)
    have HG := Aside0.mk (C_up HG.out hb)
    have HD := Aside0.mk (C_up HD.out hb)
    have HE := Aside0.mk (C_up HE.out hb)
    have HB := Up.step HB hb
    clear hb
    clear c4_4 c8_4 c8_5 c10_4 c12_5
    go_wp2_with fail
    (with_reducible refine (aliveSame ⟨3, 25000⟩ al17 (C_up HE.out ((Up.refl _).alloc _)) (C_one_Draw ⟨3, 25000⟩ (blk_new _ _))).mono ?_)
    rintro e Y25000 ⟨rfl, hb⟩
    have hb := Up.step ((Up.refl _).alloc _) hb
    have HK := Aside0.mk (C_up HK.out hb)
    have HG := Aside0.mk (C_up HG.out hb)
    have HD := Aside0.mk (C_up HD.out hb)
    have HE := Aside0.mk (C_up HE.out hb)
    have HB := Up.step HB hb
    clear hb
    go_wp2_with fail
    (with_reducible refine (alivePower HK.out HG.out).mono ?_)
    rintro e Z1 ⟨rfl, hb⟩
    have HK := Aside0.mk (C_up HK.out hb)
    have HG := Aside0.mk (C_up HG.out hb)
    have HB := Up.step HB hb
    clear hb
    go_wp2_with fail
    (with_reducible refine (aliveRight HK.out HG.out).mono ?_)
    rintro e Z2 ⟨rfl, hb⟩
    have HK := Aside0.mk (C_up HK.out hb)
    have HG := Aside0.mk (C_up HG.out hb)
    have HB := Up.step HB hb
    clear hb
    go_wp2_with fail
    (with_reducible refine (aliveRight0 HG.out).mono ?_)
    rintro e Z3 ⟨rfl, hb⟩
    have HK := Aside0.mk (C_up HK.out hb)
    have HG := Aside0.mk (C_up HG.out hb)
    have HB := Up.step HB hb
    clear hb
    go_wp2
    go_ret
    exact ⟨rfl, HB⟩

end Go.Proofs.Ytahcalhpigmbgaa.H
