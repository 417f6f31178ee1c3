import Derived.Test.YtcnamihkghiigaaHK
import Derived.Test.YtcnamihkghiigaaHSi
import Derived.Test.YtcnamihkghiigaaHSr
import Derived.Test.YtcnamihkghiigaaWRepsOne
namespace Go.Proofs.Ytcnamihkghiigaa.H
open Go.RowKit Go.Proofs.YtcnamihkghiigaaW.PrintWords Go.Proofs.YtcnamihkghiigaaW.PrintLast Go.Proofs.YtcnamihkghiigaaW.PrintMore
set_option linter.unusedVariables false
set_option linter.unusedSimpArgs false
/-! alive of surfaces -/
theorem C_lit {α : Type} {d : Kd α} {W : World} {g e : Nat} {xs : List α} {inner : List Value} (hb : W.heap[g]? = some (.cells inner.toArray e (0, 0))) (hr : Reps (d.K W) d.sz xs inner) (hm : xs.length ≤ 9223372036854775807) : Kd.C d W (some ⟨g, 0, none⟩) xs.length xs := by
  refine ⟨rfl, hm, fun _ => ⟨_, rfl, fun j p hj => ⟨_, ?_, hr.2 j p hj, fun i u hu => ?_⟩⟩⟩
  · have h1 := hr.1
    have h2 : j < xs.length := (List.getElem?_eq_some_iff.1 hj).1
    have h3 : j * d.sz + d.sz ≤ xs.length * d.sz := by rw [← Nat.succ_mul]; exact Nat.mul_le_mul_right _ h2
    rw [List.length_take, List.length_drop, h1]; omega
  · have h4 : inner[j * d.sz + i]? = some u := by
      rw [List.getElem?_take] at hu
      split at hu
      · rwa [List.getElem?_drop] at hu
      · cases hu
    have := (blk_cell hb (j * d.sz + i)).trans (by simpa using h4)
    rw [show Addr.add ⟨g, 0, none⟩ (j * d.sz + i) = ⟨g, j * d.sz + i, none⟩ by unfold Addr.add; split <;> simp_all]
    exact this
theorem C_three {W : World} {g e : Nat} (x y z : SSurface) (hb : W.heap[g]? = some (.cells #[.int .i64 x.f0, .int .i64 x.f1, .int .i64 x.f2, .int .i64 y.f0, .int .i64 y.f1, .int .i64 y.f2, .int .i64 z.f0, .int .i64 z.f1, .int .i64 z.f2] e (0, 0))) : Kd.C kSurface W (some ⟨g, 0, none⟩) 3 [x, y, z] :=
  C_lit (inner := [.int .i64 x.f0, .int .i64 x.f1, .int .i64 x.f2, .int .i64 y.f0, .int .i64 y.f1, .int .i64 y.f2, .int .i64 z.f0, .int .i64 z.f1, .int .i64 z.f2]) hb (Reps.c3 (kSurface_mk W x) (Reps.c3 (kSurface_mk W y) (Reps.c3 (kSurface_mk W z) (Reps.none _ _)))) (by simp)
theorem C_ints3 {W : World} {g e : Nat} (x y z : Int) (hb : W.heap[g]? = some (.cells #[.int .i64 x, .int .i64 y, .int .i64 z] e (0, 0))) : Kd.C (Kd.int .i64) W (some ⟨g, 0, none⟩) 3 [x, y, z] :=
  C_lit (inner := [.int .i64 x, .int .i64 y, .int .i64 z]) hb (Reps.one rfl (Reps.one rfl (Reps.one rfl (Reps.none _ _)))) (by simp)
abbrev surL : List SSurface := [⟨1, -1, 0⟩, ⟨2, 1000, 10⟩, ⟨3, 50, 999995⟩]
theorem sa0 : groomS surL 3 60 = ([⟨1, -1, 0⟩, ⟨2, 1000, 10⟩, ⟨3, 60, 0⟩], 0) := by kernel_rfl
theorem sa1 : descS surL 3 10 = ([⟨1, -1, 0⟩, ⟨2, 1000, 10⟩, ⟨3, 50, 1000000⟩], 0) := by kernel_rfl
theorem sa2 : groomS surL 3 49 = ([], 11) := by kernel_rfl
theorem sa3 : descS surL 4 (-1) = ([], 8) := by kernel_rfl
theorem sa4 : surR surL = 0 := by kernel_rfl
theorem sa5 : qualS ⟨2, 1000, 10⟩ 4599 = 998 := by kernel_rfl
theorem sa6 : qualS ⟨2, 1000, 10⟩ 4600 = 988 := by kernel_rfl
theorem sa7 : qualS ⟨2, 1000, 10⟩ 999 = 0 := by kernel_rfl
theorem sa8 : sortS (cmpS 1000) surL = [⟨1, -1, 0⟩, ⟨3, 50, 999995⟩, ⟨2, 1000, 10⟩] := by kernel_rfl
theorem sa9 : idxF (fun i => decide (999 ≤ qualS (rd_Surface surL i) 1000)) (surL.length - (0 : Int).toNat) 0 = -1 := by kernel_rfl
theorem sa10 : sameIS [1, 3, 2] [1, 3, 2] = true := by kernel_rfl
theorem sa11 : sameS [⟨1, -1, 0⟩, ⟨2, 1000, 10⟩, ⟨3, 60, 0⟩] [⟨1, -1, 0⟩, ⟨2, 1000, 10⟩, ⟨3, 60, 0⟩] = true := by kernel_rfl
theorem sa12 : sameS [⟨1, -1, 0⟩, ⟨2, 1000, 10⟩, ⟨3, 50, 1000000⟩] [⟨1, -1, 0⟩, ⟨2, 1000, 10⟩, ⟨3, 50, 1000000⟩] = true := by kernel_rfl
theorem sGroom1 {g : Nat} {W : World} (hC : Kd.C kSurface W (some ⟨g, 0, none⟩) 3 surL) : Calls Try.prog 14 #[.slice (some ⟨g, 0, none⟩) 3 3, .int .i64 3, .int .i64 60] W fun e w' => ∃ A c, e = .returned (.tuple #[.slice A 3 c, .int .i64 0]) ∧ Kd.C kSurface w' A 3 [⟨1, -1, 0⟩, ⟨2, 1000, 10⟩, ⟨3, 60, 0⟩] ∧ Up W w' := by
  refine (Groom_c (some ⟨g, 0, none⟩) 3 surL 3 60 W _ _ sa0 (by decide) hC).mono fun e w' ⟨v, he, hv, hu⟩ => ?_
  obtain ⟨A, c, rfl, _, hC⟩ := Kd.R_reads hv
  exact ⟨A, c, he, hC, hu⟩
theorem sDesc1 {g : Nat} {W : World} (hC : Kd.C kSurface W (some ⟨g, 0, none⟩) 3 surL) : Calls Try.prog 17 #[.slice (some ⟨g, 0, none⟩) 3 3, .int .i64 3, .int .i64 10] W fun e w' => ∃ A c, e = .returned (.tuple #[.slice A 3 c, .int .i64 0]) ∧ Kd.C kSurface w' A 3 [⟨1, -1, 0⟩, ⟨2, 1000, 10⟩, ⟨3, 50, 1000000⟩] ∧ Up W w' := by
  refine (Descend_c (some ⟨g, 0, none⟩) 3 surL 3 10 W _ _ sa1 (by decide) hC).mono fun e w' ⟨v, he, hv, hu⟩ => ?_
  obtain ⟨A, c, rfl, _, hC⟩ := Kd.R_reads hv
  exact ⟨A, c, he, hC, hu⟩
theorem sGroom2 {g : Nat} {W : World} (hC : Kd.C kSurface W (some ⟨g, 0, none⟩) 3 surL) : Calls Try.prog 14 #[.slice (some ⟨g, 0, none⟩) 3 3, .int .i64 3, .int .i64 49] W fun e w' => ∃ v, e = .returned (.tuple #[v, .int .i64 11]) ∧ Up W w' := by
  refine (Groom_c (some ⟨g, 0, none⟩) 3 surL 3 49 W _ _ sa2 (by decide) hC).mono fun e w' ⟨v, he, hv, hu⟩ => ?_
  exact ⟨v, he, hu⟩
theorem sDesc2 {g : Nat} {W : World} (hC : Kd.C kSurface W (some ⟨g, 0, none⟩) 3 surL) : Calls Try.prog 17 #[.slice (some ⟨g, 0, none⟩) 3 3, .int .i64 4, .int .i64 (-1)] W fun e w' => ∃ v, e = .returned (.tuple #[v, .int .i64 8]) ∧ Up W w' := by
  refine (Descend_c (some ⟨g, 0, none⟩) 3 surL 4 (-1) W _ _ sa3 (by decide) hC).mono fun e w' ⟨v, he, hv, hu⟩ => ?_
  exact ⟨v, he, hu⟩
theorem sRight {g : Nat} {W : World} (hC : Kd.C kSurface W (some ⟨g, 0, none⟩) 3 surL) : Calls Try.prog 12 #[.slice (some ⟨g, 0, none⟩) 3 3] W fun e w' => e = .returned (.int .i64 0) ∧ Up W w' := SurRight_c (some ⟨g, 0, none⟩) 3 surL W 0 sa4 hC
theorem sWorst {g : Nat} {W : World} (hC : Kd.C kSurface W (some ⟨g, 0, none⟩) 3 surL) : Calls Try.prog 22 #[.slice (some ⟨g, 0, none⟩) 3 3, .int .i64 1000, .int .i64 999] W fun e w' => ∃ A c, e = .returned (.slice A 3 c) ∧ Kd.C (Kd.int .i64) w' A 3 [1, 3, 2] ∧ Up W w' := by
  refine (WorstA_c (some ⟨g, 0, none⟩) 3 surL 1000 999 W _ sa8 sa9 (by decide) (by decide) hC).mono fun e w' ⟨v, he, hv, hu⟩ => ?_
  obtain ⟨A, c, rfl, _, hC⟩ := Kd.R_reads hv
  exact ⟨A, c, he, hC, hu⟩
theorem sSameI {A : Option Addr} {c g : Nat} {W : World} (h0 : Kd.C (Kd.int .i64) W A 3 [1, 3, 2]) (h1 : Kd.C (Kd.int .i64) W (some ⟨g, 0, none⟩) 3 [1, 3, 2]) : Calls Try.prog 21 #[.slice A 3 c, .slice (some ⟨g, 0, none⟩) 3 3] W fun e w' => e = .returned (.bool true) ∧ Up W w' := SameInts_c A c [1, 3, 2] (some ⟨g, 0, none⟩) 3 [1, 3, 2] true W sa10 h0 h1
theorem sSame (x y z : SSurface) (hx : sameS [x, y, z] [x, y, z] = true) {A : Option Addr} {c g : Nat} {W : World} (h0 : Kd.C kSurface W A 3 [x, y, z]) (h1 : Kd.C kSurface W (some ⟨g, 0, none⟩) 3 [x, y, z]) : Calls Try.prog 16 #[.slice A 3 c, .slice (some ⟨g, 0, none⟩) 3 3] W fun e w' => e = .returned (.bool true) ∧ Up W w' := Same_c A c [x, y, z] (some ⟨g, 0, none⟩) 3 [x, y, z] true W hx h0 h1
set_option maxHeartbeats 16000000 in
set_option maxRecDepth 100000 in
theorem alive_c (w : World) : Calls Try.prog 11 #[] w fun e w' => e = .returned (.bool true) ∧ Up w w' := by
  have hu := Try.underlying32
  have HB := Up.refl w
  go_enter Try.func11, Try.ntmps11
  go_wp2_with fail
  obtain ⟨gb, hgb⟩ : ∃ g, g = w.heap.size := ⟨_, rfl⟩
  obtain ⟨gl, hgl⟩ : ∃ g, g = gb + 1 := ⟨_, rfl⟩
  rw [← hgb, ← hgl]
  obtain ⟨W0, hW⟩ : ∃ W, W = (w.alloc (.cells #[.int .i64 2, .int .i64 1000, .int .i64 10] 32)).alloc (.cells #[.int .i64 1, .int .i64 (-1), .int .i64 0, .int .i64 2, .int .i64 1000, .int .i64 10, .int .i64 3, .int .i64 50, .int .i64 999995] 32) := ⟨_, rfl⟩
  rw [← hW]
  have KB := Aside0.mk (show W0.heap[gb]? = some (.cells #[.int .i64 2, .int .i64 1000, .int .i64 10] 32 (0, 0)) by rw [hW, hgb]; exact blk_alloc (blk_new w _) _)
  have KL := Aside0.mk (show W0.heap[gl]? = some (.cells #[.int .i64 1, .int .i64 (-1), .int .i64 0, .int .i64 2, .int .i64 1000, .int .i64 10, .int .i64 3, .int .i64 50, .int .i64 999995] 32 (0, 0)) by rw [hW, hgl, hgb]; exact blk_2 w _ _)
  have HC := Aside0.mk (C_three ⟨1, -1, 0⟩ ⟨2, 1000, 10⟩ ⟨3, 50, 999995⟩ KL.out)
  have HB := show Up w W0 by rw [hW]; exact (HB.alloc _).alloc _
  clear hW hgb hgl
  (with_reducible refine (sGroom1 HC.out).mono ?_)
  rintro e w1 ⟨DA, dc, rfl, hD, hb⟩
  have KB := Aside0.mk (Up.blk hb KB.out)
  have KL := Aside0.mk (Up.blk hb KL.out)
  have HC := Aside0.mk (C_up HC.out hb)
  have HB := Up.step HB hb
  have HDa := Aside0.mk hD
  clear hD
  clear hb
  go_wp2_with fail
  (with_reducible refine (sDesc1 HC.out).mono ?_)
  rintro e w1 ⟨EA, ec, rfl, hD, hb⟩
  have KB := Aside0.mk (Up.blk hb KB.out)
  have KL := Aside0.mk (Up.blk hb KL.out)
  have HC := Aside0.mk (C_up HC.out hb)
  have HB := Up.step HB hb
  have HDa := Aside0.mk (C_up HDa.out hb)
  have HDb := Aside0.mk hD
  clear hD
  clear hb
  go_wp2_with fail
  (with_reducible refine (sGroom2 HC.out).mono ?_)
  rintro e w1 ⟨v, rfl, hb⟩
  have KB := Aside0.mk (Up.blk hb KB.out)
  have KL := Aside0.mk (Up.blk hb KL.out)
  have HC := Aside0.mk (C_up HC.out hb)
  have HB := Up.step HB hb
  have HDa := Aside0.mk (C_up HDa.out hb)
  have HDb := Aside0.mk (C_up HDb.out hb)
  clear hb
  go_wp2_with fail
  (with_reducible refine (sDesc2 HC.out).mono ?_)
  rintro e w1 ⟨u, rfl, hb⟩
  have KB := Aside0.mk (Up.blk hb KB.out)
  have KL := Aside0.mk (Up.blk hb KL.out)
  have HC := Aside0.mk (C_up HC.out hb)
  have HB := Up.step HB hb
  have HDa := Aside0.mk (C_up HDa.out hb)
  have HDb := Aside0.mk (C_up HDb.out hb)
  clear hb
  go_wp2_with fail
  (with_reducible refine (sRight HC.out).mono ?_)
  rintro e w1 ⟨rfl, hb⟩
  have KB := Aside0.mk (Up.blk hb KB.out)
  have KL := Aside0.mk (Up.blk hb KL.out)
  have HC := Aside0.mk (C_up HC.out hb)
  have HB := Up.step HB hb
  have HDa := Aside0.mk (C_up HDa.out hb)
  have HDb := Aside0.mk (C_up HDb.out hb)
  clear hb
  have q0 := (blk_cell KB.out 0).trans rfl
  have q1 := (blk_cell KB.out 1).trans rfl
  have q2 := (blk_cell KB.out 2).trans rfl
  simp only [List.getElem?_toArray, List.getElem?_cons_zero, List.getElem?_cons_succ] at q0 q1 q2
  go_wp2_with fail
  clear q0 q1 q2
  (with_reducible refine (Quality_c 2 1000 10 4599 _ 998 sa5).mono ?_)
  rintro e w1 ⟨rfl, hb⟩
  have KB := Aside0.mk (Up.blk hb KB.out)
  have KL := Aside0.mk (Up.blk hb KL.out)
  have HC := Aside0.mk (C_up HC.out hb)
  have HB := Up.step HB hb
  have HDa := Aside0.mk (C_up HDa.out hb)
  have HDb := Aside0.mk (C_up HDb.out hb)
  clear hb
  have q0 := (blk_cell KB.out 0).trans rfl
  have q1 := (blk_cell KB.out 1).trans rfl
  have q2 := (blk_cell KB.out 2).trans rfl
  simp only [List.getElem?_toArray, List.getElem?_cons_zero, List.getElem?_cons_succ] at q0 q1 q2
  go_wp2_with fail
  clear q0 q1 q2
  (with_reducible refine (Quality_c 2 1000 10 4600 _ 988 sa6).mono ?_)
  rintro e w1 ⟨rfl, hb⟩
  have KB := Aside0.mk (Up.blk hb KB.out)
  have KL := Aside0.mk (Up.blk hb KL.out)
  have HC := Aside0.mk (C_up HC.out hb)
  have HB := Up.step HB hb
  have HDa := Aside0.mk (C_up HDa.out hb)
  have HDb := Aside0.mk (C_up HDb.out hb)
  clear hb
  have q0 := (blk_cell KB.out 0).trans rfl
  have q1 := (blk_cell KB.out 1).trans rfl
  have q2 := (blk_cell KB.out 2).trans rfl
  simp only [List.getElem?_toArray, List.getElem?_cons_zero, List.getElem?_cons_succ] at q0 q1 q2
  go_wp2_with fail
  clear q0 q1 q2
  (with_reducible refine (Quality_c 2 1000 10 999 _ 0 sa7).mono ?_)
  rintro e w1 ⟨rfl, hb⟩
  have KB := Aside0.mk (Up.blk hb KB.out)
  have KL := Aside0.mk (Up.blk hb KL.out)
  have HC := Aside0.mk (C_up HC.out hb)
  have HB := Up.step HB hb
  have HDa := Aside0.mk (C_up HDa.out hb)
  have HDb := Aside0.mk (C_up HDb.out hb)
  clear hb
  go_wp2_with fail
  (with_reducible refine (sWorst HC.out).mono ?_)
  rintro e w1 ⟨FA, fc, rfl, hD, hb⟩
  have KB := Aside0.mk (Up.blk hb KB.out)
  have KL := Aside0.mk (Up.blk hb KL.out)
  have HC := Aside0.mk (C_up HC.out hb)
  have HB := Up.step HB hb
  have HDa := Aside0.mk (C_up HDa.out hb)
  have HDb := Aside0.mk (C_up HDb.out hb)
  have HDc := Aside0.mk hD
  clear hD
  clear hb
  go_wp2_with fail
  (with_reducible refine (sSameI (C_up HDc.out ((Up.refl _).alloc _)) (C_ints3 1 3 2 (blk_new _ _))).mono ?_)
  rintro e w2 ⟨rfl, hb⟩
  have hb := Up.step ((Up.refl _).alloc _) hb
  have KB := Aside0.mk (Up.blk hb KB.out)
  have KL := Aside0.mk (Up.blk hb KL.out)
  have HC := Aside0.mk (C_up HC.out hb)
  have HB := Up.step HB hb
  have HDa := Aside0.mk (C_up HDa.out hb)
  have HDb := Aside0.mk (C_up HDb.out hb)
  have HDc := Aside0.mk (C_up HDc.out hb)
  clear hb
  have q0 := (blk_cell KB.out 0).trans rfl
  have q1 := (blk_cell KB.out 1).trans rfl
  have q2 := (blk_cell KB.out 2).trans rfl
  simp only [List.getElem?_toArray, List.getElem?_cons_zero, List.getElem?_cons_succ] at q0 q1 q2
  have p0 := (blk_cell KL.out 0).trans rfl
  have p1 := (blk_cell KL.out 1).trans rfl
  have p2 := (blk_cell KL.out 2).trans rfl
  simp only [List.getElem?_toArray, List.getElem?_cons_zero, List.getElem?_cons_succ] at p0 p1 p2
  go_upto_region 11 with (fail)
  clear HDc HC
  go_region_with (first | (go_at_call 16; (with_reducible refine (sSame ⟨1, -1, 0⟩ ⟨2, 1000, 10⟩ ⟨3, 60, 0⟩ sa11 (C_up HDa.out (by repeat (with_reducible first | exact Up.refl _ | assumption | apply Up.alloc | apply Up.drewN | apply Up.drew))) (C_three ⟨1, -1, 0⟩ ⟨2, 1000, 10⟩ ⟨3, 60, 0⟩ (by first | exact blk_new _ _ | exact blk_drew (blk_new _ _)))).mono ?_); rintro e w3 ⟨rfl, hb⟩; have hU : Up w2 w3 := Up.step (by repeat (with_reducible first | exact Up.refl _ | assumption | apply Up.alloc | apply Up.drewN | apply Up.drew)) hb; clear hb; have q0 := (blk_cell (Up.blk hU KB.out) 0).trans rfl; have q1 := (blk_cell (Up.blk hU KB.out) 1).trans rfl; have q2 := (blk_cell (Up.blk hU KB.out) 2).trans rfl; have p0 := (blk_cell (Up.blk hU KL.out) 0).trans rfl; have p1 := (blk_cell (Up.blk hU KL.out) 1).trans rfl; have p2 := (blk_cell (Up.blk hU KL.out) 2).trans rfl; simp only [List.getElem?_toArray, List.getElem?_cons_zero, List.getElem?_cons_succ] at q0 q1 q2 p0 p1 p2) | (go_at_call 16; (with_reducible refine (sSame ⟨1, -1, 0⟩ ⟨2, 1000, 10⟩ ⟨3, 50, 1000000⟩ sa12 (C_up HDb.out (by repeat (with_reducible first | exact Up.refl _ | assumption | apply Up.alloc | apply Up.drewN | apply Up.drew))) (C_three ⟨1, -1, 0⟩ ⟨2, 1000, 10⟩ ⟨3, 50, 1000000⟩ (by first | exact blk_new _ _ | exact blk_drew (blk_new _ _)))).mono ?_); rintro e w3 ⟨rfl, hb⟩; have hU : Up w2 w3 := Up.step (by repeat (with_reducible first | exact Up.refl _ | assumption | apply Up.alloc | apply Up.drewN | apply Up.drew)) hb; clear hb))
  all_goals
    go_wp2
    go_ret
    exact ⟨rfl, Up.step HB (by assumption)⟩

end Go.Proofs.Ytcnamihkghiigaa.H
