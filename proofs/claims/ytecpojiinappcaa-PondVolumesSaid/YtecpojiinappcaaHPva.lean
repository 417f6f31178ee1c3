import Derived.Test.YtecpojiinappcaaHK
import Derived.Test.YtecpojiinappcaaHPv0
namespace Go.Proofs.Ytecpojiinappcaa.H
open Go.RowKit Go.Proofs.YtecpojiinappcaaW.PrintWords Go.Proofs.YtecpojiinappcaaW.PrintLast Go.Proofs.YtecpojiinappcaaW.PrintMore
set_option linter.unusedVariables false
set_option linter.unusedSimpArgs false
/-! alive of ponds -/
set_option maxHeartbeats 16000000 in
set_option maxRecDepth 100000 in
theorem alive_c (w : World) : Calls Try.prog 9 #[] w fun e w' => e = .returned (.bool true) ∧ Up w w' := by
  have hu := Try.underlying38
  have HB := Up.refl w
  go_enter Try.func9, Try.ntmps9
  go_wp2_with fail
  (with_reducible refine (sample_c _).mono ?_)
  rintro e w0 ⟨gl, rfl, hk, hb⟩
  have KL := Aside0.mk hk
  have HB := Aside0.mk (Up.step HB hb)
  clear hk hb
  go_wp2_with fail
  (with_reducible refine (Take_n 2 (some ⟨gl, 0, none⟩) 2 ponL 300 _ _ _ rfl pv0 ponL_ok (C_ponL KL.out)).mono ?_)
  rintro e w1 ⟨v, rfl, hR, hb⟩
  have KL := Aside0.mk (Up.blk hb KL.out)
  have HB := Aside0.mk (Up.step HB.out hb)
  obtain ⟨ga, ca, rfl, -, -⟩ := RP_form hR (by decide)
  have Ha := Aside0.mk hR
  clear hR
  clear hb
  go_wp2_with fail
  (with_reducible refine (Take_n 2 (some ⟨gl, 0, none⟩) 2 ponL 1 _ _ _ rfl pv1 ponL_ok (C_ponL KL.out)).mono ?_)
  rintro e w2 ⟨v, rfl, hR, hb⟩
  have KL := Aside0.mk (Up.blk hb KL.out)
  have HB := Aside0.mk (Up.step HB.out hb)
  have Ha := Aside0.mk (Kd.R_below Ha.out hb)
  obtain ⟨gb, cb, rfl, -, -⟩ := RP_form hR (by decide)
  have Hb := Aside0.mk hR
  clear hR
  clear hb
  go_wp2_with fail
  (with_reducible refine (Take_n 2 (some ⟨gl, 0, none⟩) 2 ponL 1201 _ _ _ rfl pv2 ponL_ok (C_ponL KL.out)).mono ?_)
  rintro e w3 ⟨v6, rfl, -, hb⟩
  have KL := Aside0.mk (Up.blk hb KL.out)
  have HB := Aside0.mk (Up.step HB.out hb)
  have Ha := Aside0.mk (Kd.R_below Ha.out hb)
  have Hb := Aside0.mk (Kd.R_below Hb.out hb)
  clear hb
  go_wp2_with fail
  (with_reducible refine (Take_n 2 (some ⟨gl, 0, none⟩) 2 ponL (-1) _ _ _ rfl pv3 ponL_ok (C_ponL KL.out)).mono ?_)
  rintro e w4 ⟨v8, rfl, -, hb⟩
  have KL := Aside0.mk (Up.blk hb KL.out)
  have HB := Aside0.mk (Up.step HB.out hb)
  have Ha := Aside0.mk (Kd.R_below Ha.out hb)
  have Hb := Aside0.mk (Kd.R_below Hb.out hb)
  clear hb
  go_wp2_with fail
  (with_reducible refine (Fill_n 2 (some ⟨gl, 0, none⟩) 2 ponL 30 _ _ _ _ rfl pv4 ponL_ok (C_ponL KL.out)).mono ?_)
  rintro e w5 ⟨v, rfl, hR, hb⟩
  have KL := Aside0.mk (Up.blk hb KL.out)
  have HB := Aside0.mk (Up.step HB.out hb)
  have Ha := Aside0.mk (Kd.R_below Ha.out hb)
  have Hb := Aside0.mk (Kd.R_below Hb.out hb)
  obtain ⟨gc, cc, rfl, -, -⟩ := RP_form hR (by decide)
  have Hc := Aside0.mk hR
  clear hR
  clear hb
  go_wp2_with fail
  (with_reducible refine (Fill_n 2 (some ⟨gl, 0, none⟩) 2 ponL 100 _ _ _ _ rfl pv5 ponL_ok (C_ponL KL.out)).mono ?_)
  rintro e w6 ⟨v, rfl, hR, hb⟩
  have KL := Aside0.mk (Up.blk hb KL.out)
  have HB := Aside0.mk (Up.step HB.out hb)
  have Ha := Aside0.mk (Kd.R_below Ha.out hb)
  have Hb := Aside0.mk (Kd.R_below Hb.out hb)
  have Hc := Aside0.mk (Kd.R_below Hc.out hb)
  obtain ⟨gd, cd, rfl, -, -⟩ := RP_form hR (by decide)
  have Hd := Aside0.mk hR
  clear hR
  clear hb
  go_wp2_with fail
  (with_reducible refine (Right_n 2 (some ⟨gl, 0, none⟩) 2 ponL _ 0 rfl pv6 (C_ponL KL.out) (by decide)).mono ?_)
  rintro e w7 ⟨rfl, hb⟩
  have KL := Aside0.mk (Up.blk hb KL.out)
  have HB := Aside0.mk (Up.step HB.out hb)
  have Ha := Aside0.mk (Kd.R_below Ha.out hb)
  have Hb := Aside0.mk (Kd.R_below Hb.out hb)
  have Hc := Aside0.mk (Kd.R_below Hc.out hb)
  have Hd := Aside0.mk (Kd.R_below Hd.out hb)
  clear hb
  have q0 := (blk_cell KL.out 0).trans rfl
  have q1 := (blk_cell KL.out 1).trans rfl
  have q2 := (blk_cell KL.out 2).trans rfl
  have q3 := (blk_cell KL.out 3).trans rfl
  have q4 := (blk_cell KL.out 4).trans rfl
  simp only [List.getElem?_toArray, List.getElem?_cons_zero, List.getElem?_cons_succ] at q0 q1 q2 q3 q4
  dsimp only
  refine ‹∀ (a : Act) (w : World), wpList _ _ _ _ a w → _› _ _ ?_
  (try simp only [Act.put, List.setIfInBounds_toArray, List.set_cons_zero, List.set_cons_succ])
  refine wl_on (v := .bool true) (W1 := w7) rfl (by go_simp) ?_
  (try simp only [Act.put, List.setIfInBounds_toArray, List.set_cons_zero, List.set_cons_succ])
  refine wl_on (v := .bool true) (W1 := w7) rfl (by go_simp) ?_
  (try simp only [Act.put, List.setIfInBounds_toArray, List.set_cons_zero, List.set_cons_succ])
  refine wl_on (v := .slice (some ⟨gl, 0, none⟩) 2 2) (W1 := w7) rfl (by go_simp) ?_
  (try simp only [Act.put, List.setIfInBounds_toArray, List.set_cons_zero, List.set_cons_succ])
  refine wl_on (v := .slice (some ⟨gl, 0, none⟩) 2 2) (W1 := w7) rfl (by go_simp) ?_
  (try simp only [Act.put, List.setIfInBounds_toArray, List.set_cons_zero, List.set_cons_succ])
  refine wl_on (v := .pointer (some ⟨gl, 0, none⟩)) (W1 := w7) rfl (by go_simp) ?_
  (try simp only [Act.put, List.setIfInBounds_toArray, List.set_cons_zero, List.set_cons_succ])
  refine wl_on (v := .agg #[.int .i64 1, .int .i64 1000, .int .i64 200, .int .i64 5000, .int .i64 3600]) (W1 := w7) rfl (by go_simp) ?_
  (try simp only [Act.put, List.setIfInBounds_toArray, List.set_cons_zero, List.set_cons_succ])
  refine wl_on (v := .slice (some ⟨w7.heap.size, 0, none⟩) 1 1) (W1 := w7.alloc (.cells #[.int .i64 1, .int .i64 1000, .int .i64 200, .int .i64 5000, .int .i64 3600] 38)) rfl (by go_simp) ?_
  (try simp only [Act.put, List.setIfInBounds_toArray, List.set_cons_zero, List.set_cons_succ])
  refine appP rfl (.tmp 103) (.tmp 107) rfl gl w7.heap.size rfl (by simp [Act.eval]) (blk_alloc KL.out _) (blk_new _ _) ?_
  intro AA ac w8 hC hc hb
  have hb := Up.step ((Up.refl _).alloc _) hb
  (try simp only [Act.put, List.setIfInBounds_toArray, List.set_cons_zero, List.set_cons_succ])
  have KL := Aside0.mk (Up.blk hb KL.out)
  have HB := Aside0.mk (Up.step HB.out hb)
  have Ha := Aside0.mk (Kd.R_below Ha.out hb)
  have Hb := Aside0.mk (Kd.R_below Hb.out hb)
  have Hc := Aside0.mk (Kd.R_below Hc.out hb)
  have Hd := Aside0.mk (Kd.R_below Hd.out hb)
  have HAC := Aside0.mk hC
  have HACc := Aside0.mk hc
  clear hC hc hb q0 q1 q2 q3 q4
  go_wp2_with fail
  (with_reducible refine (Right_n 3 AA ac [pA, pB, pA] _ 7 rfl pv7 HAC.out HACc.out).mono ?_)
  rintro e w9 ⟨rfl, hb⟩
  have KL := Aside0.mk (Up.blk hb KL.out)
  have HB := Aside0.mk (Up.step HB.out hb)
  have Ha := Aside0.mk (Kd.R_below Ha.out hb)
  have Hb := Aside0.mk (Kd.R_below Hb.out hb)
  have Hc := Aside0.mk (Kd.R_below Hc.out hb)
  have Hd := Aside0.mk (Kd.R_below Hd.out hb)
  clear hb
  go_wp2_with fail
  (with_reducible refine (Spare_n 2 (some ⟨gl, 0, none⟩) 2 ponL _ 1200 rfl pv8 ponL_ok (C_ponL KL.out)).mono ?_)
  rintro e w10 ⟨rfl, hb⟩
  have KL := Aside0.mk (Up.blk hb KL.out)
  have HB := Aside0.mk (Up.step HB.out hb)
  have Ha := Aside0.mk (Kd.R_below Ha.out hb)
  have Hb := Aside0.mk (Kd.R_below Hb.out hb)
  have Hc := Aside0.mk (Kd.R_below Hc.out hb)
  have Hd := Aside0.mk (Kd.R_below Hd.out hb)
  clear hb
  go_wp2_with fail
  (with_reducible refine (Total_n 2 (some ⟨gl, 0, none⟩) 2 ponL _ 1500 rfl pv9 ponL_ok (C_ponL KL.out)).mono ?_)
  rintro e w11 ⟨rfl, hb⟩
  have KL := Aside0.mk (Up.blk hb KL.out)
  have HB := Aside0.mk (Up.step HB.out hb)
  have Ha := Aside0.mk (Kd.R_below Ha.out hb)
  have Hb := Aside0.mk (Kd.R_below Hb.out hb)
  have Hc := Aside0.mk (Kd.R_below Hc.out hb)
  have Hd := Aside0.mk (Kd.R_below Hd.out hb)
  clear hb
  have ra0 : w11.cell? ⟨ga, 1, none⟩ = some (.int .i64 800) := (rowPond Ha.out (i := 0) (by decide) (by decide)).2.1
  have ra1 : w11.cell? ⟨ga, 6, none⟩ = some (.int .i64 400) := (rowPond Ha.out (i := 1) (by decide) (by decide)).2.1
  have rb0 : w11.cell? ⟨gb, 1, none⟩ = some (.int .i64 999) := (rowPond Hb.out (i := 0) (by decide) (by decide)).2.1
  have rb1 : w11.cell? ⟨gb, 6, none⟩ = some (.int .i64 500) := (rowPond Hb.out (i := 1) (by decide) (by decide)).2.1
  have rc0 : w11.cell? ⟨gc, 1, none⟩ = some (.int .i64 1030) := (rowPond Hc.out (i := 0) (by decide) (by decide)).2.1
  have rd1 : w11.cell? ⟨gd, 6, none⟩ = some (.int .i64 600) := (rowPond Hd.out (i := 1) (by decide) (by decide)).2.1
  go_wp2
  go_ret
  exact ⟨by simp, HB.out⟩

end Go.Proofs.Ytecpojiinappcaa.H
