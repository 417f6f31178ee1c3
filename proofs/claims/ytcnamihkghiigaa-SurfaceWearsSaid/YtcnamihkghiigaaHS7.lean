import Derived.Test.YtcnamihkghiigaaHK
import Derived.Test.YtcnamihkghiigaaHS6
import Derived.Test.YtcnamihkghiigaaHS2
namespace Go.Proofs.Ytcnamihkghiigaa.H
open Go.RowKit Go.Proofs.YtcnamihkghiigaaW.PrintWords Go.Proofs.YtcnamihkghiigaaW.PrintLast Go.Proofs.YtcnamihkghiigaaW.PrintMore
set_option linter.unusedVariables false
set_option linter.unusedSimpArgs false
/-! SurfaceWears -/
theorem oneRight {g : Nat} {W : World} (x : SSurface) (r : Int) (hr : surR [x] = r) (hC : Kd.C kSurface W (some ⟨g, 0, none⟩) 1 [x]) : Calls Try.prog 12 #[.slice (some ⟨g, 0, none⟩) 1 1] W fun e w' => e = .returned (.int .i64 r) ∧ Up W w' := SurRight_c (some ⟨g, 0, none⟩) 1 [x] W r hr hC
theorem oneDesc {g : Nat} {W : World} (x : SSurface) (n : Int) (R : List SSurface) (e : Int) (h : descS [x] x.f0 n = (R, e)) (hC : Kd.C kSurface W (some ⟨g, 0, none⟩) 1 [x]) : Calls Try.prog 17 #[.slice (some ⟨g, 0, none⟩) 1 1, .int .i64 x.f0, .int .i64 n] W fun en w' => ∃ A c, en = .returned (.tuple #[.slice A R.length c, .int .i64 e]) ∧ Kd.C kSurface w' A R.length R ∧ Up W w' := by
  refine (Descend_c (some ⟨g, 0, none⟩) 1 [x] x.f0 n W R e h (by simp) hC).mono fun en w' ⟨v, he, hv, hu⟩ => ?_
  obtain ⟨A, c, rfl, _, hC⟩ := Kd.R_reads hv
  exact ⟨A, c, he, hC, hu⟩
theorem oneGroom {g : Nat} {W : World} (x : SSurface) (n : Int) (R : List SSurface) (e : Int) (h : groomS [x] x.f0 n = (R, e)) (hC : Kd.C kSurface W (some ⟨g, 0, none⟩) 1 [x]) : Calls Try.prog 14 #[.slice (some ⟨g, 0, none⟩) 1 1, .int .i64 x.f0, .int .i64 n] W fun en w' => ∃ A c, en = .returned (.tuple #[.slice A R.length c, .int .i64 e]) ∧ Kd.C kSurface w' A R.length R ∧ Up W w' := by
  refine (Groom_c (some ⟨g, 0, none⟩) 1 [x] x.f0 n W R e h (by simp) hC).mono fun en w' ⟨v, he, hv, hu⟩ => ?_
  obtain ⟨A, c, rfl, _, hC⟩ := Kd.R_reads hv
  exact ⟨A, c, he, hC, hu⟩
theorem oneCells {A : Option Addr} {W : World} {x : SSurface} (h : Kd.C kSurface W A 1 [x]) : ∃ ad, A = some ad ∧ W.cell? ad = some (.int .i64 x.f0) ∧ W.cell? ⟨ad.block, ad.off + 1, none⟩ = some (.int .i64 x.f1) ∧ W.cell? ⟨ad.block, ad.off + 2, none⟩ = some (.int .i64 x.f2) := by
  obtain ⟨ad, c, rfl, _⟩ := Kd.C_get h zSurface 0 (by omega) (by omega)
  obtain ⟨h0, h1, h2⟩ := rx0_Surface h (by omega)
  exact ⟨ad, rfl, h0 _ (Up.refl W), h1 _ (Up.refl W), h2 _ (Up.refl W)⟩
set_option maxHeartbeats 16000000 in
set_option maxRecDepth 100000 in
theorem SurfaceWears_c (a0 a1 a2 t u n : Int) (w : World) (hu2 : u ≤ 9223372036854775807) :
    Calls Try.prog 8 #[.agg #[.int .i64 a0, .int .i64 a1, .int .i64 a2], .int .i64 t, .int .i64 u, .int .i64 n] w fun e w' => e = .returned (.bool true) ∧ Up w w' := by
  have hu := Try.underlying32
  obtain ⟨r, hr⟩ : ∃ r, surR [⟨a0, a1, a2⟩] = r := ⟨_, rfl⟩
  have HS := Aside0.mk hr
  have HU2 := Aside0.mk hu2
  clear hr hu2
  have HB := Up.refl w
  go_enter Try.func8, Try.ntmps8
  go_wp2_with fail
  (with_reducible refine (alive_c _).mono ?_)
  rintro e w1 ⟨rfl, hb⟩
  have K := Aside0.mk (Up.blk hb (blk_new w _))
  have HB1 := Aside0.mk (Up.step (HB.alloc _) hb)
  clear hb HB
  obtain ⟨g, hg⟩ : ∃ g, g = w.heap.size := ⟨_, rfl⟩
  rw [← hg] at K ⊢
  clear hg
  have k0 := (blk_cell K.out 0).trans rfl
  have k1 := (blk_cell K.out 1).trans rfl
  have k2 := (blk_cell K.out 2).trans rfl
  simp only [List.getElem?_toArray, List.getElem?_cons_zero, List.getElem?_cons_succ] at k0 k1 k2
  go_wp2_with fail
  clear k0 k1 k2
  obtain ⟨gl, hgl⟩ : ∃ g, g = w1.heap.size := ⟨_, rfl⟩
  rw [← hgl]
  obtain ⟨W2, hW⟩ : ∃ W, W = w1.alloc (.cells #[.int .i64 a0, .int .i64 a1, .int .i64 a2] 32) := ⟨_, rfl⟩
  rw [← hW]
  have K := Aside0.mk (show W2.heap[g]? = some (.cells #[.int .i64 a0, .int .i64 a1, .int .i64 a2] 32 (0, 0)) by rw [hW]; exact blk_alloc K.out _)
  have HC := Aside0.mk (C_one ⟨a0, a1, a2⟩ (show W2.heap[gl]? = some (.cells #[.int .i64 a0, .int .i64 a1, .int .i64 a2] 32 (0, 0)) by rw [hW, hgl]; exact blk_new w1 _))
  have HB2 := Aside0.mk (show Up w W2 by rw [hW]; exact HB1.out.alloc _)
  clear hW hgl
  (with_reducible refine (oneRight ⟨a0, a1, a2⟩ r HS.out HC.out).mono ?_)
  rintro e w3 ⟨rfl, hb⟩
  have K := Aside0.mk (Up.blk hb K.out)
  have HC := Aside0.mk (C_up HC.out hb)
  have HB3 := Aside0.mk (Up.step HB2.out hb)
  clear hb
  by_cases t1 : r = 0
  rotate_left
  · have t1n := bne_iff_ne.mpr t1; replace t1 := beq_eq_false_iff_ne.mpr t1
    go_wp2
    go_ret
    exact ⟨rfl, HB3.out⟩
  have HR0 := Aside0.mk (HS.out.trans t1)
  by_cases t2 : u < t
  · have t1n := bne_eq_false_iff_eq.mpr t1; replace t1 := beq_iff_eq.mpr t1
    replace t2 := decide_eq_true t2
    go_wp2
    go_ret
    exact ⟨rfl, HB3.out⟩
  have h3 := surR_at HR0.out (i := 0) (by omega) (by simp)
  rw [show rd_Surface [⟨a0, a1, a2⟩] 0 = ⟨a0, a1, a2⟩ from rfl] at h3
  simp only at h3
  have hrng := qual_rng (s := ⟨a0, a1, a2⟩) (t := t) ⟨h3.2.2.1, h3.2.2.2.1⟩ ⟨h3.2.2.2.2.1, h3.2.2.2.2.2⟩ (by have := HU2.out; omega)
  obtain ⟨q, hq⟩ : ∃ q, qualS ⟨a0, a1, a2⟩ t = q := ⟨_, rfl⟩
  obtain ⟨qu, hqu⟩ : ∃ q, qualS ⟨a0, a1, a2⟩ u = q := ⟨_, rfl⟩
  rw [hq] at hrng
  have HQ := Aside0.mk hq
  have HQU := Aside0.mk hqu
  have HT := Aside0.mk t2
  have H3 := Aside0.mk h3
  have HTm := Aside0.mk (fun (ht : a1 ≤ t) => qual_time (s := ⟨a0, a1, a2⟩) (t := t) (u := u) ⟨h3.2.2.1, h3.2.2.2.1⟩ ⟨h3.2.2.2.2.1, h3.2.2.2.2.2⟩ (by omega) HU2.out ht)
  have q1 := decide_eq_false (show ¬ q < 0 by omega)
  have q2 := decide_eq_false (show ¬ 1000 < q by omega)
  clear hrng hq hqu h3
  have t1n := bne_eq_false_iff_eq.mpr t1; replace t1 := beq_iff_eq.mpr t1
  replace t2 := decide_eq_false t2
  have k0 := (blk_cell K.out 0).trans rfl
  have k1 := (blk_cell K.out 1).trans rfl
  have k2 := (blk_cell K.out 2).trans rfl
  simp only [List.getElem?_toArray, List.getElem?_cons_zero, List.getElem?_cons_succ] at k0 k1 k2
  go_wp2_with fail
  clear k0 k1 k2
  (with_reducible refine (Quality_c a0 a1 a2 t _ q HQ.out).mono ?_)
  rintro e w4 ⟨rfl, hb⟩
  have K := Aside0.mk (Up.blk hb K.out)
  have HC := Aside0.mk (C_up HC.out hb)
  have HB4 := Aside0.mk (Up.step HB3.out hb)
  clear hb
  obtain ⟨la, ea, hda⟩ : ∃ (R : List SSurface) (e : Int), descS [⟨a0, a1, a2⟩] a0 n = (R, e) := ⟨_, _, rfl⟩
  have HDA := Aside0.mk hda
  have hda2 := desc_one (s := ⟨a0, a1, a2⟩) HR0.out hda
  have HDA2 := Aside0.mk hda2
  obtain ⟨lb, eb, hgb⟩ : ∃ (R : List SSurface) (e : Int), groomS [⟨a0, a1, a2⟩] a0 t = (R, e) := ⟨_, _, rfl⟩
  have HGB := Aside0.mk hgb
  have hgb2 := groom_one (s := ⟨a0, a1, a2⟩) hgb
  have HGB2 := Aside0.mk hgb2
  clear hda hda2 hgb hgb2
  have k0 := (blk_cell K.out 0).trans rfl
  have k1 := (blk_cell K.out 1).trans rfl
  have k2 := (blk_cell K.out 2).trans rfl
  simp only [List.getElem?_toArray, List.getElem?_cons_zero, List.getElem?_cons_succ] at k0 k1 k2
  by_cases t3 : a1 ≤ t
  all_goals
    first
    | (have hle := HTm.out t3; rw [HQ.out, HQU.out] at hle; replace hle := decide_eq_false (show ¬ q < qu by omega); replace t3 := decide_eq_true t3; go_wp2_with fail; clear k0 k1 k2; (with_reducible refine (Quality_c a0 a1 a2 u _ qu HQU.out).mono ?_); rintro e w5 ⟨rfl, hb⟩; have K := Aside0.mk (Up.blk hb K.out); have HC := Aside0.mk (C_up HC.out hb); have HB5 := Aside0.mk (Up.step HB4.out hb); clear hb; have k0 := (blk_cell K.out 0).trans rfl; have k1 := (blk_cell K.out 1).trans rfl; have k2 := (blk_cell K.out 2).trans rfl; simp only [List.getElem?_toArray, List.getElem?_cons_zero, List.getElem?_cons_succ] at k0 k1 k2; go_wp2_with fail; clear k0 k1 k2)
    | (have HB5 := HB4; replace t3 := decide_eq_false t3; go_wp2_with fail; clear k0 k1 k2)
    (with_reducible refine (oneDesc ⟨a0, a1, a2⟩ n la ea HDA.out HC.out).mono ?_)
    rintro e w6 ⟨DA, dc, rfl, hD, hb⟩
    have K := Aside0.mk (Up.blk hb K.out)
    have HC := Aside0.mk (C_up HC.out hb)
    have HB6 := Aside0.mk (Up.step HB5.out hb)
    have HD := Aside0.mk hD
    clear hb hD
    rcases HDA2.out with hne | ⟨rfl, ⟨x0, x1, x2⟩, rfl, hx1, hx2⟩
    · have hnen := bne_iff_ne.mpr hne; replace hne := beq_eq_false_iff_ne.mpr hne
      have k0 := (blk_cell K.out 0).trans rfl
      have k1 := (blk_cell K.out 1).trans rfl
      have k2 := (blk_cell K.out 2).trans rfl
      simp only [List.getElem?_toArray, List.getElem?_cons_zero, List.getElem?_cons_succ] at k0 k1 k2
      go_wp2_with fail
      clear k0 k1 k2
      (with_reducible refine (oneGroom ⟨a0, a1, a2⟩ t lb eb HGB.out HC.out).mono ?_)
      rintro e w8 ⟨GA, gc, rfl, hD, hb⟩
      have HB8 := Aside0.mk (Up.step HB6.out hb)
      have HDb := Aside0.mk hD
      clear hb hD
      rcases HGB2.out with hne2 | ⟨rfl, ⟨y0, y1, y2⟩, rfl, hy⟩
      · have hne2n := bne_iff_ne.mpr hne2; replace hne2 := beq_eq_false_iff_ne.mpr hne2
        go_wp2
        go_ret
        exact ⟨rfl, HB8.out⟩
      · have HY := Aside0.mk hy
        obtain ⟨bd, rfl, d0, d1, d2⟩ := oneCells HDb.out
        clear hy
        go_wp2_with fail
        (with_reducible refine (Quality_c y0 y1 y2 t _ 1000 HY.out).mono ?_)
        rintro e w9 ⟨rfl, hb⟩
        have HB9 := Aside0.mk (Up.step HB8.out hb)
        clear hb d0 d1 d2
        go_wp2
        go_ret
        exact ⟨rfl, HB9.out⟩
    · have h3 := H3.out
      have hqx := qual_desc (s := ⟨a0, a1, a2⟩) (x := ⟨x0, x1, x2⟩) (t := t) ⟨h3.2.2.1, h3.2.2.2.1⟩ ⟨h3.2.2.2.2.1, h3.2.2.2.2.2⟩ (by have := HU2.out; have := HT.out; omega) hx1 hx2
      obtain ⟨qx, hq⟩ : ∃ q, qualS ⟨x0, x1, x2⟩ t = q := ⟨_, rfl⟩
      rw [hq, HQ.out] at hqx
      have HQX := Aside0.mk hq
      replace hqx := decide_eq_false (show ¬ q < qx by omega)
      obtain ⟨xd, rfl, c0, c1, c2⟩ := oneCells HD.out
      clear h3 hx1 hx2 hq
      go_wp2_with fail
      (with_reducible refine (Quality_c x0 x1 x2 t _ qx HQX.out).mono ?_)
      rintro e w7 ⟨rfl, hb⟩
      have K := Aside0.mk (Up.blk hb K.out)
      have HC := Aside0.mk (C_up HC.out hb)
      have HB7 := Aside0.mk (Up.step HB6.out hb)
      clear hb c0 c1 c2
      have k0 := (blk_cell K.out 0).trans rfl
      have k1 := (blk_cell K.out 1).trans rfl
      have k2 := (blk_cell K.out 2).trans rfl
      simp only [List.getElem?_toArray, List.getElem?_cons_zero, List.getElem?_cons_succ] at k0 k1 k2
      go_wp2_with fail
      clear k0 k1 k2
      (with_reducible refine (oneGroom ⟨a0, a1, a2⟩ t lb eb HGB.out HC.out).mono ?_)
      rintro e w8 ⟨GA, gc, rfl, hD, hb⟩
      have HB8 := Aside0.mk (Up.step HB7.out hb)
      have HDb := Aside0.mk hD
      clear hb hD
      rcases HGB2.out with hne2 | ⟨rfl, ⟨y0, y1, y2⟩, rfl, hy⟩
      · have hne2n := bne_iff_ne.mpr hne2; replace hne2 := beq_eq_false_iff_ne.mpr hne2
        go_wp2
        go_ret
        exact ⟨rfl, HB8.out⟩
      · have HY := Aside0.mk hy
        obtain ⟨bd, rfl, d0, d1, d2⟩ := oneCells HDb.out
        clear hy
        go_wp2_with fail
        (with_reducible refine (Quality_c y0 y1 y2 t _ 1000 HY.out).mono ?_)
        rintro e w9 ⟨rfl, hb⟩
        have HB9 := Aside0.mk (Up.step HB8.out hb)
        clear hb d0 d1 d2
        go_wp2
        go_ret
        exact ⟨rfl, HB9.out⟩
theorem i64_le {n : Int} (h : (Lit.int .i64 n).wf = true) : n ≤ 9223372036854775807 := by
  simp only [Lit.wf, Bool.and_eq_true, decide_eq_true_eq] at h
  have h2 : IntKind.i64.max = 9223372036854775807 := by decide
  omega

end Go.Proofs.Ytcnamihkghiigaa.H
