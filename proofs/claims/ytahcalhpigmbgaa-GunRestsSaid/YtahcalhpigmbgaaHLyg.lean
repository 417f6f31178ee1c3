import Derived.Test.YtahcalhpigmbgaaHK
import Derived.Test.YtahcalhpigmbgaaHLx
namespace Go.Proofs.Ytahcalhpigmbgaa.H
open Go.RowKit Go.Proofs.YtahcalhpigmbgaaW.PrintWords Go.Proofs.YtahcalhpigmbgaaW.PrintLast Go.Proofs.YtahcalhpigmbgaaW.PrintMore
set_option linter.unusedVariables false
set_option linter.unusedSimpArgs false
/-! GunRests -/
attribute [local go_sem high] eqA31
attribute [local go_sem] undef
theorem rightOne (g : SGun) : rightS [kindOne] [lone g] = if gunBad g = true then 2 else 0 := by
  have h1 : errF (kindE [kindOne]) ([kindOne].length - (0 : Int).toNat) 0 = 0 := by kernel_rfl
  have h2 : errF (gunE [kindOne] [lone g]) ([lone g].length - (0 : Int).toNat) 0 = gunE [kindOne] [lone g] 0 := by
    show (if gunE [kindOne] [lone g] 0 = 0 then 0 else gunE [kindOne] [lone g] 0) = _
    split <;> simp_all
  have h3 : gunE [kindOne] [lone g] 0 = if gunBad g = true then 2 else 0 := by
    show (if gunBad g = true then 2 else if 0 ≤ gunX ([lone g].take (0 : Int).toNat) (lone g).f0 then 7 else if kindX [kindOne] 1 < 0 then 8 else 0) = _
    rw [show gunX ([lone g].take (0 : Int).toNat) (lone g).f0 = -1 from rfl, show kindX [kindOne] 1 = 0 by kernel_rfl]
    simp
  rw [rightS, if_neg (by simp), if_pos h1, h2, h3]
theorem singleS_eq (g : SGun) : singleS g = (!gunBad g && (decide (1 ≤ g.f3) && decide (g.f3 ≤ 9999))) := by
  unfold singleS
  rw [rightOne]
  cases gunBad g <;> simp
theorem gunOk {g : SGun} : gunBad g = false ↔ (1 ≤ g.f0 ∧ g.f0 ≤ 9999) ∧ (1 ≤ g.f1 ∧ g.f1 ≤ 9999) ∧ (1 ≤ g.f2 ∧ g.f2 ≤ 9999) ∧ (0 ≤ g.f4 ∧ g.f4 ≤ 2) ∧ (0 ≤ g.f5 ∧ g.f5 ≤ 20000000) ∧ (0 ≤ g.f6 ∧ g.f6 ≤ 86400) ∧ (0 ≤ g.f7 ∧ g.f7 ≤ 86400) := by
  unfold gunBad inB
  simp
theorem single_ok {g : SGun} (h : singleS g = true) : (0 ≤ g.f5 ∧ g.f5 ≤ 20000000) ∧ (0 ≤ g.f6 ∧ g.f6 ≤ 86400) ∧ (0 ≤ g.f7 ∧ g.f7 ≤ 86400) := by
  rw [singleS_eq, Bool.and_eq_true, Bool.not_eq_true'] at h
  exact (gunOk.1 h.1).2.2.2.2
theorem single_set {g : SGun} {s t : Int} (h : singleS g = true) (hs : 0 ≤ s ∧ s ≤ 2) (ht : 0 ≤ t ∧ t ≤ 20000000) : singleS { g with f4 := s, f5 := t } = true := by
  rw [singleS_eq, Bool.and_eq_true, Bool.not_eq_true'] at h ⊢
  obtain ⟨h1, h2, h3, _, _, h6, h7⟩ := gunOk.1 h.1
  exact ⟨gunOk.2 ⟨h1, h2, h3, hs, ht, h6, h7⟩, h.2⟩
theorem wl_on {ops : Array Oper} {rest : List Oper} {o : Oper} {a : Act} {Q : Exit → Act → World → Prop} {W W1 : World} {v : Value} (hw : Region.wanted o (yielded ops a.tmps) = true) (hrun : (execOp a.eval o).run Try.prog W = .ok (.value v) W1) (h : wpList Try.prog ops Q rest (a.put o.dst v) W1) : wpList Try.prog ops Q (o :: rest) a W := by
  show (if Region.wanted o (yielded ops a.tmps) = true then _ ∨ _ else _)
  rw [if_pos hw]
  left
  unfold Oper.wp
  rw [hrun]
  exact h
theorem wl_off {ops : Array Oper} {rest : List Oper} {o : Oper} {a : Act} {Q : Exit → Act → World → Prop} {W : World} (hw : Region.wanted o (yielded ops a.tmps) = false) (h : wpList Try.prog ops Q rest (a.put o.dst undef) W) : wpList Try.prog ops Q (o :: rest) a W := by
  show (if Region.wanted o (yielded ops a.tmps) = true then _ ∨ _ else _)
  rw [if_neg (by rw [hw]; simp)]
  exact h
theorem joinS {α β : Type} {F : α → β → Prop} {G : Prop} {P : α → β → Prop} (step : (∀ a b, F a b → P a b) → G) (rest : ∀ a b, F a b → P a b) : G := step rest
set_option maxHeartbeats 16000000 in
set_option maxRecDepth 100000 in
theorem GunRests_c (a0 a1 a2 a3 a4 a5 a6 a7 : Int) (A0 : Option Addr) (c0 : Nat) (l : List SLOp) (w : World) (hr0 : Kd.C kLOp w A0 l.length l) :
    Calls Try.prog 6 #[.agg #[.int .i64 a0, .int .i64 a1, .int .i64 a2, .int .i64 a3, .int .i64 a4, .int .i64 a5, .int .i64 a6, .int .i64 a7], .slice A0 l.length c0] w fun e w' => e = .returned (.bool true) ∧ Up w w' := by
  have hu := Try.underlying31
  have hu2 := Try.underlying49
  have HR := Aside0.mk hr0
  obtain ⟨b, hb⟩ : ∃ b, singleS ⟨a0, a1, a2, a3, a4, a5, a6, a7⟩ = b := ⟨_, rfl⟩
  have H0 := Aside0.mk hb
  have HB := Up.refl w
  clear hr0 hb
  go_enter Try.func6, Try.ntmps6
  go_wp2_with fail
  (with_reducible refine (alive_c _).mono ?_)
  rintro e W0 ⟨rfl, hb⟩
  have K2 := Aside0.mk (Up.blk hb (blk_new w _))
  have HB := Aside0.mk (show Up w W0 from Up.step (HB.alloc _) hb)
  clear hb
  obtain ⟨g2, hg⟩ : ∃ g, g = w.heap.size := ⟨_, rfl⟩
  have HG2 := Aside0.mk (show w.heap.size ≤ g2 by omega)
  rw [← hg] at K2 ⊢
  clear hg
  have q0 := (blk_cell K2.out 0).trans rfl
  have q1 := (blk_cell K2.out 1).trans rfl
  have q2 := (blk_cell K2.out 2).trans rfl
  have q3 := (blk_cell K2.out 3).trans rfl
  have q4 := (blk_cell K2.out 4).trans rfl
  have q5 := (blk_cell K2.out 5).trans rfl
  have q6 := (blk_cell K2.out 6).trans rfl
  have q7 := (blk_cell K2.out 7).trans rfl
  simp only [List.getElem?_toArray, List.getElem?_cons_zero, List.getElem?_cons_succ] at q0 q1 q2 q3 q4 q5 q6 q7
  go_wp2_with fail
  clear q0 q1 q2 q3 q4 q5 q6 q7
  (with_reducible refine (single_c a0 a1 a2 a3 a4 a5 a6 a7 b _ H0.out).mono ?_)
  rintro e V0 ⟨rfl, hb⟩
  have K2 := Aside0.mk (Up.blk hb K2.out)
  have HB := Aside0.mk (Up.step HB.out hb)
  clear hb
  cases b
  · go_wp2
    go_ret
    exact ⟨rfl, HB.out⟩
  by_cases hn : 60 < (l.length : Int)
  · replace hn := decide_eq_true hn
    go_wp2
    go_ret
    exact ⟨rfl, HB.out⟩
  have HN := Aside0.mk hn
  replace hn := decide_eq_false hn
  go_wp2
  go_loopg [5, 6, 7, 8] (l.length) (fun gk v5 _ _ _ w' => ∃ (i : Int) (x : SGun), v5 = .int .i64 i ∧ 0 ≤ i ∧ l.length - i.toNat ≤ gk ∧ Aside0 (singleS x = true) ∧ Aside0 (w'.heap[g2]? = some (.cells #[.int .i64 x.f0, .int .i64 x.f1, .int .i64 x.f2, .int .i64 x.f3, .int .i64 x.f4, .int .i64 x.f5, .int .i64 x.f6, .int .i64 x.f7] 31 (0, 0))) ∧ Aside0 (Up w w'))
  case atStart => exact ⟨0, ⟨a0, a1, a2, a3, a4, a5, a6, a7⟩, rfl, by omega, by omega, H0, K2, HB⟩
  case round =>
    clear HB K2 H0
    obtain ⟨i, ⟨x0, x1, x2, x3, x4, x5, x6, x7⟩, rfl, hi, hg, H0, K2, HB⟩ := hrel
    have HI := Aside0.mk hi
    have HG := Aside0.mk hg
    clear hg
    by_cases hlt : i < l.length
    rotate_left
    · replace hlt := decide_eq_false hlt
      go_wp2
      go_ret
      exact ⟨rfl, HB.out⟩
    have HL := Aside0.mk hlt
    have hlt2 := decide_eq_true hlt
    obtain ⟨ad, rfl⟩ : ∃ ad, A0 = some ad := by obtain ⟨ad, c, e, _⟩ := Kd.C_get HR.out zLOp i hi hlt; exact ⟨ad, e⟩
    obtain ⟨hx0, hx1⟩ := rx_LOp HR.out
    have p0 := hx0 _ i HB.out hi hlt
    have p1 := hx1 _ i HB.out hi hlt
    have X0 := Aside0.mk (fun W u => hx0 W i u hi hlt)
    have X1 := Aside0.mk (fun W u => hx1 W i u hi hlt)
    obtain ⟨k, hk⟩ : ∃ k, (rd_LOp l i).f0 = k := ⟨_, rfl⟩
    obtain ⟨t, ht⟩ : ∃ t, (rd_LOp l i).f1 = t := ⟨_, rfl⟩
    rw [hk] at p0 X0
    rw [ht] at p1 X1
    obtain ⟨⟨y0, y1, y2, y3, y4, y5, y6, y7⟩, er, hy⟩ : ∃ (g : SGun) (e : Int), actS ⟨x0, x1, x2, x3, x4, x5, x6, x7⟩ k t = (g, e) := ⟨_, _, rfl⟩
    have HY := Aside0.mk hy
    clear hk ht hy hx0 hx1
    replace hi := eq_true hi; replace hlt := eq_true hlt
    have q0 := (blk_cell K2.out 0).trans rfl
    have q1 := (blk_cell K2.out 1).trans rfl
    have q2 := (blk_cell K2.out 2).trans rfl
    have q3 := (blk_cell K2.out 3).trans rfl
    have q4 := (blk_cell K2.out 4).trans rfl
    have q5 := (blk_cell K2.out 5).trans rfl
    have q6 := (blk_cell K2.out 6).trans rfl
    have q7 := (blk_cell K2.out 7).trans rfl
    simp only [List.getElem?_toArray, List.getElem?_cons_zero, List.getElem?_cons_succ] at q0 q1 q2 q3 q4 q5 q6 q7
    have p2 := fun ob => X0.out (wr.alloc ob) (HB.out.alloc ob)
    have p3 := fun ob => X1.out (wr.alloc ob) (HB.out.alloc ob)
    have r0 := fun ob => (blk_cell (blk_alloc K2.out ob) 0).trans rfl
    have r1 := fun ob => (blk_cell (blk_alloc K2.out ob) 1).trans rfl
    have r2 := fun ob => (blk_cell (blk_alloc K2.out ob) 2).trans rfl
    have r3 := fun ob => (blk_cell (blk_alloc K2.out ob) 3).trans rfl
    have r4 := fun ob => (blk_cell (blk_alloc K2.out ob) 4).trans rfl
    have r5 := fun ob => (blk_cell (blk_alloc K2.out ob) 5).trans rfl
    have r6 := fun ob => (blk_cell (blk_alloc K2.out ob) 6).trans rfl
    have r7 := fun ob => (blk_cell (blk_alloc K2.out ob) 7).trans rfl
    simp only [List.getElem?_toArray, List.getElem?_cons_zero, List.getElem?_cons_succ] at r0 r1 r2 r3 r4 r5 r6 r7
    go_upto_region 8 with (fail)
    apply joinS (F := fun (X : World) (g6 : Nat) => Up wr X ∧ X.heap[g6]? = some (.cells #[.int .i64 y0, .int .i64 y1, .int .i64 y2, .int .i64 y3, .int .i64 y4, .int .i64 y5, .int .i64 y6, .int .i64 y7] 31 (0, 0)))
    · intro key
      go_region_with (first | (go_at_call 32; (with_reducible refine (act_c x0 x1 x2 x3 x4 x5 x6 x7 k t y0 y1 y2 y3 y4 y5 y6 y7 er _ HY.out).mono ?_); rintro e w2 ⟨rfl, hb⟩; obtain ⟨hc, hf, hz⟩ := Up.cells hb; (try simp at hz)))
      all_goals
        first | (generalize hX : w2.alloc (.cells #[.int .i64 y0, .int .i64 y1, .int .i64 y2, .int .i64 y3, .int .i64 y4, .int .i64 y5, .int .i64 y6, .int .i64 y7] 31) = X; obtain ⟨g6, hg6⟩ : ∃ g, g = w2.heap.size := ⟨_, rfl⟩; rw [← hg6]; have HX : Up wr X := (by rw [← hX]; exact (Up.step (by repeat (with_reducible first | exact (Up.refl wr) | apply Up.alloc | apply Up.drewN | apply Up.drew)) hb).alloc _); have K6 := Aside0.mk (show X.heap[g6]? = some (.cells #[.int .i64 y0, .int .i64 y1, .int .i64 y2, .int .i64 y3, .int .i64 y4, .int .i64 y5, .int .i64 y6, .int .i64 y7] 31 (0, 0)) by rw [← hX, hg6]; exact blk_new w2 _); exact key _ _ ⟨HX, K6.out⟩) | (generalize hX : ((((((((w2.setCell ⟨wr.heap.size, 0, none⟩ (.int .i64 y0)).setCell ⟨wr.heap.size, 1, none⟩ (.int .i64 y1)).setCell ⟨wr.heap.size, 2, none⟩ (.int .i64 y2)).setCell ⟨wr.heap.size, 3, none⟩ (.int .i64 y3)).setCell ⟨wr.heap.size, 4, none⟩ (.int .i64 y4)).setCell ⟨wr.heap.size, 5, none⟩ (.int .i64 y5)).setCell ⟨wr.heap.size, 6, none⟩ (.int .i64 y6)).setCell ⟨wr.heap.size, 7, none⟩ (.int .i64 y7)) = X; obtain ⟨g6, hg6⟩ : ∃ g, g = wr.heap.size := ⟨_, rfl⟩; rw [← hg6]; have HX : Up wr X := (by rw [← hX]; have HU_ := Up.step (by repeat (with_reducible first | exact (Up.refl wr) | apply Up.alloc | apply Up.drewN | apply Up.drew)) hb; (repeat (with_reducible first | exact HU_ | refine Up.set ?_ (by omega)))); have K6 := Aside0.mk (show X.heap[g6]? = some (.cells #[.int .i64 y0, .int .i64 y1, .int .i64 y2, .int .i64 y3, .int .i64 y4, .int .i64 y5, .int .i64 y6, .int .i64 y7] 31 (0, 0)) by rw [← hX, hg6]; exact blkput_8 (Up.blk hb (by first | exact blk_drew (blk_new _ _) | exact blk_new _ _))); exact key _ _ ⟨HX, K6.out⟩)
    · rintro X g6 ⟨HX, hK6⟩
      clear q0 q1 q2 q3 q4 q5 q6 q7 r0 r1 r2 r3 r4 r5 r6 r7 p0 p1 p2 p3
      have K6 := Aside0.mk hK6
      clear hK6
      have K2 := Aside0.mk (Up.blk HX K2.out)
      have HB2 := Aside0.mk (Up.step HB.out HX)
      clear HX
      by_cases hqe : er = 0
      rotate_left
      · obtain hz := actS_err HY.out hqe
        simp only [zGun, SGun.mk.injEq] at hz
        obtain ⟨rfl, rfl, rfl, rfl, rfl, rfl, rfl, rfl⟩ := hz
        have hqen := bne_iff_ne.mpr hqe; replace hqe := beq_eq_false_iff_ne.mpr hqe
        have q0 := (blk_cell K6.out 0).trans rfl
        have q1 := (blk_cell K6.out 1).trans rfl
        have q2 := (blk_cell K6.out 2).trans rfl
        have q3 := (blk_cell K6.out 3).trans rfl
        have q4 := (blk_cell K6.out 4).trans rfl
        have q5 := (blk_cell K6.out 5).trans rfl
        have q6 := (blk_cell K6.out 6).trans rfl
        have q7 := (blk_cell K6.out 7).trans rfl
        simp only [List.getElem?_toArray, List.getElem?_cons_zero, List.getElem?_cons_succ] at q0 q1 q2 q3 q4 q5 q6 q7
        go_wp2; repeat (go_quiet (fail); try go_wp2)
        go_roundg (gk - 1)
        case measure => have := HL.out; have := HI.out; have := HG.out; omega
        case rel => exact ⟨i + 1, ⟨x0, x1, x2, x3, x4, x5, x6, x7⟩, (by first | rfl | (simp; done) | (have := HL.out; have := HI.out; have := HN.out; congr 1; unfold wrap64; omega)), by have := HI.out; omega, by have := HL.out; have := HI.out; have := HG.out; omega, H0, K2, HB2⟩
      subst hqe
      obtain ⟨hs5, hs6, hs7⟩ := single_ok H0.out
      obtain ⟨s, hys, hs0, hs2, ht5, ht2, hk0, hk1, hk2⟩ := actS_ok HY.out hs6 hs7 hs5
      have HS := Aside0.mk (single_set (s := s) (t := t) H0.out ⟨hs0, hs2⟩ ⟨by have := hs5.1; have := ht5; simp only at *; omega, ht2⟩)
      simp only [SGun.mk.injEq] at hys
      obtain ⟨rfl, rfl, rfl, rfl, rfl, rfl, rfl, rfl⟩ := hys
      have HK0 := Aside0.mk hk0
      have HK1 := Aside0.mk hk1
      have HK2 := Aside0.mk hk2
      have T5 := Aside0.mk ht5
      clear hs5 hs6 hs7 hs0 hs2 ht5 ht2 hk0 hk1 hk2
      have q0 := (blk_cell K6.out 0).trans rfl
      have q1 := (blk_cell K6.out 1).trans rfl
      have q2 := (blk_cell K6.out 2).trans rfl
      have q3 := (blk_cell K6.out 3).trans rfl
      have q4 := (blk_cell K6.out 4).trans rfl
      have q5 := (blk_cell K6.out 5).trans rfl
      have q6 := (blk_cell K6.out 6).trans rfl
      have q7 := (blk_cell K6.out 7).trans rfl
      simp only [List.getElem?_toArray, List.getElem?_cons_zero, List.getElem?_cons_succ] at q0 q1 q2 q3 q4 q5 q6 q7
      have r0 := (blk_cell K2.out 0).trans rfl
      have r1 := (blk_cell K2.out 1).trans rfl
      have r2 := (blk_cell K2.out 2).trans rfl
      have r3 := (blk_cell K2.out 3).trans rfl
      have r4 := (blk_cell K2.out 4).trans rfl
      have r5 := (blk_cell K2.out 5).trans rfl
      have r6 := (blk_cell K2.out 6).trans rfl
      have r7 := (blk_cell K2.out 7).trans rfl
      simp only [List.getElem?_toArray, List.getElem?_cons_zero, List.getElem?_cons_succ] at r0 r1 r2 r3 r4 r5 r6 r7
      go_upto_region 13 with (fail)
      clear q0 q1 q2 q3 q4 q5 q6 q7 r0 r1 r2 r3 r4 r5 r6 r7
      generalize hX : X.alloc (.cells #[.int .i64 y0, .int .i64 y1, .int .i64 y2, .int .i64 y3, .int .i64 y4, .int .i64 y5, .int .i64 y6, .int .i64 y7] 31) = X8
      obtain ⟨g8, hg8⟩ : ∃ g, g = X.heap.size := ⟨_, rfl⟩
      rw [← hg8]
      have HX : Up X X8 := by rw [← hX]; exact (Up.refl X).alloc _
      have K8 := Aside0.mk (show X8.heap[g8]? = some (.cells #[.int .i64 y0, .int .i64 y1, .int .i64 y2, .int .i64 y3, .int .i64 y4, .int .i64 y5, .int .i64 y6, .int .i64 y7] 31 (0, 0)) by rw [← hX, hg8]; exact blk_new X _)
      have hne : g2 ≠ g8 := by rw [hg8]; have := blk_lt K2.out; omega
      have hne6 : g6 ≠ g8 := by rw [hg8]; have := blk_lt K6.out; omega
      have hlt8 : X.heap.size ≤ g8 := by omega
      have K2 := Aside0.mk (Up.blk HX K2.out)
      have K6 := Aside0.mk (Up.blk HX K6.out)
      have HB3 := Aside0.mk (Up.step HB2.out HX)
      have HXX := Aside0.mk (Up.step HB2.out (Up.refl X))
      clear hX hg8 HX
      have q0 := (blk_cell K2.out 0).trans rfl
      have q1 := (blk_cell K2.out 1).trans rfl
      have q2 := (blk_cell K2.out 2).trans rfl
      have q3 := (blk_cell K2.out 3).trans rfl
      have q4 := (blk_cell K2.out 4).trans rfl
      have q5 := (blk_cell K2.out 5).trans rfl
      have q6 := (blk_cell K2.out 6).trans rfl
      have q7 := (blk_cell K2.out 7).trans rfl
      simp only [List.getElem?_toArray, List.getElem?_cons_zero, List.getElem?_cons_succ] at q0 q1 q2 q3 q4 q5 q6 q7
      have r0 := (blk_cell K8.out 0).trans rfl
      have r1 := (blk_cell K8.out 1).trans rfl
      have r2 := (blk_cell K8.out 2).trans rfl
      have r3 := (blk_cell K8.out 3).trans rfl
      have r4 := (blk_cell K8.out 4).trans rfl
      have r5 := (blk_cell K8.out 5).trans rfl
      have r6 := (blk_cell K8.out 6).trans rfl
      have r7 := (blk_cell K8.out 7).trans rfl
      simp only [List.getElem?_toArray, List.getElem?_cons_zero, List.getElem?_cons_succ] at r0 r1 r2 r3 r4 r5 r6 r7
      have f4 := blk_frozen K8.out 4
      have f5 := blk_frozen K8.out 5
      go_region
      all_goals
        generalize hY : World.drew _ = Y
        have HB4 := Aside0.mk (show Up w Y by rw [← hY]; have := HXX.out.size; exact ((HB3.out.set (by omega)).set (by omega)).drew)
        have K8 := Aside0.mk (show Y.heap[g8]? = some (.cells #[.int .i64 y0, .int .i64 y1, .int .i64 y2, .int .i64 y3, .int .i64 x4, .int .i64 x5, .int .i64 y6, .int .i64 y7] 31 (0, 0)) by rw [← hY]; exact blk_drew (blk_put (cs' := #[.int .i64 y0, .int .i64 y1, .int .i64 y2, .int .i64 y3, .int .i64 x4, .int .i64 x5, .int .i64 y6, .int .i64 y7]) (blk_put (cs' := #[.int .i64 y0, .int .i64 y1, .int .i64 y2, .int .i64 y3, .int .i64 x4, .int .i64 y5, .int .i64 y6, .int .i64 y7]) K8.out 4 (.int .i64 x4) rfl) 5 (.int .i64 x5) rfl))
        have K2 := Aside0.mk (show Y.heap[g2]? = some (.cells #[.int .i64 y0, .int .i64 y1, .int .i64 y2, .int .i64 y3, .int .i64 x4, .int .i64 x5, .int .i64 y6, .int .i64 y7] 31 (0, 0)) by rw [← hY]; exact blk_drew ((Below.heap_setCell _ _ _ _ hne).trans ((Below.heap_setCell _ _ _ _ hne).trans K2.out)))
        have K6 := Aside0.mk (show Y.heap[g6]? = some (.cells #[.int .i64 y0, .int .i64 y1, .int .i64 y2, .int .i64 y3, .int .i64 y4, .int .i64 y5, .int .i64 y6, .int .i64 y7] 31 (0, 0)) by rw [← hY]; exact blk_drew ((Below.heap_setCell _ _ _ _ hne6).trans ((Below.heap_setCell _ _ _ _ hne6).trans K6.out)))
        clear q0 q1 q2 q3 q4 q5 q6 q7 r0 r1 r2 r3 r4 r5 r6 r7
        clear hY f4 f5
        have t5 := T5.out
        replace t5 := decide_eq_false (show ¬ y5 < x5 by simp only at t5; omega)
        have CK20 := Aside0.mk (show ∀ W, Up Y W → W.cell? ⟨g2, 0, none⟩ = some (.int .i64 y0) from fun W u => (blk_cell (Up.blk u K2.out) 0).trans rfl)
        have CK21 := Aside0.mk (show ∀ W, Up Y W → W.cell? ⟨g2, 1, none⟩ = some (.int .i64 y1) from fun W u => (blk_cell (Up.blk u K2.out) 1).trans rfl)
        have CK22 := Aside0.mk (show ∀ W, Up Y W → W.cell? ⟨g2, 2, none⟩ = some (.int .i64 y2) from fun W u => (blk_cell (Up.blk u K2.out) 2).trans rfl)
        have CK23 := Aside0.mk (show ∀ W, Up Y W → W.cell? ⟨g2, 3, none⟩ = some (.int .i64 y3) from fun W u => (blk_cell (Up.blk u K2.out) 3).trans rfl)
        have CK24 := Aside0.mk (show ∀ W, Up Y W → W.cell? ⟨g2, 4, none⟩ = some (.int .i64 x4) from fun W u => (blk_cell (Up.blk u K2.out) 4).trans rfl)
        have CK25 := Aside0.mk (show ∀ W, Up Y W → W.cell? ⟨g2, 5, none⟩ = some (.int .i64 x5) from fun W u => (blk_cell (Up.blk u K2.out) 5).trans rfl)
        have CK26 := Aside0.mk (show ∀ W, Up Y W → W.cell? ⟨g2, 6, none⟩ = some (.int .i64 y6) from fun W u => (blk_cell (Up.blk u K2.out) 6).trans rfl)
        have CK27 := Aside0.mk (show ∀ W, Up Y W → W.cell? ⟨g2, 7, none⟩ = some (.int .i64 y7) from fun W u => (blk_cell (Up.blk u K2.out) 7).trans rfl)
        have CK80 := Aside0.mk (show ∀ W, Up Y W → W.cell? ⟨g8, 0, none⟩ = some (.int .i64 y0) from fun W u => (blk_cell (Up.blk u K8.out) 0).trans rfl)
        have CK81 := Aside0.mk (show ∀ W, Up Y W → W.cell? ⟨g8, 1, none⟩ = some (.int .i64 y1) from fun W u => (blk_cell (Up.blk u K8.out) 1).trans rfl)
        have CK82 := Aside0.mk (show ∀ W, Up Y W → W.cell? ⟨g8, 2, none⟩ = some (.int .i64 y2) from fun W u => (blk_cell (Up.blk u K8.out) 2).trans rfl)
        have CK83 := Aside0.mk (show ∀ W, Up Y W → W.cell? ⟨g8, 3, none⟩ = some (.int .i64 y3) from fun W u => (blk_cell (Up.blk u K8.out) 3).trans rfl)
        have CK84 := Aside0.mk (show ∀ W, Up Y W → W.cell? ⟨g8, 4, none⟩ = some (.int .i64 x4) from fun W u => (blk_cell (Up.blk u K8.out) 4).trans rfl)
        have CK85 := Aside0.mk (show ∀ W, Up Y W → W.cell? ⟨g8, 5, none⟩ = some (.int .i64 x5) from fun W u => (blk_cell (Up.blk u K8.out) 5).trans rfl)
        have CK86 := Aside0.mk (show ∀ W, Up Y W → W.cell? ⟨g8, 6, none⟩ = some (.int .i64 y6) from fun W u => (blk_cell (Up.blk u K8.out) 6).trans rfl)
        have CK87 := Aside0.mk (show ∀ W, Up Y W → W.cell? ⟨g8, 7, none⟩ = some (.int .i64 y7) from fun W u => (blk_cell (Up.blk u K8.out) 7).trans rfl)
        have CK60 := Aside0.mk (show ∀ W, Up Y W → W.cell? ⟨g6, 0, none⟩ = some (.int .i64 y0) from fun W u => (blk_cell (Up.blk u K6.out) 0).trans rfl)
        have CK61 := Aside0.mk (show ∀ W, Up Y W → W.cell? ⟨g6, 1, none⟩ = some (.int .i64 y1) from fun W u => (blk_cell (Up.blk u K6.out) 1).trans rfl)
        have CK62 := Aside0.mk (show ∀ W, Up Y W → W.cell? ⟨g6, 2, none⟩ = some (.int .i64 y2) from fun W u => (blk_cell (Up.blk u K6.out) 2).trans rfl)
        have CK63 := Aside0.mk (show ∀ W, Up Y W → W.cell? ⟨g6, 3, none⟩ = some (.int .i64 y3) from fun W u => (blk_cell (Up.blk u K6.out) 3).trans rfl)
        have CK64 := Aside0.mk (show ∀ W, Up Y W → W.cell? ⟨g6, 4, none⟩ = some (.int .i64 y4) from fun W u => (blk_cell (Up.blk u K6.out) 4).trans rfl)
        have CK65 := Aside0.mk (show ∀ W, Up Y W → W.cell? ⟨g6, 5, none⟩ = some (.int .i64 y5) from fun W u => (blk_cell (Up.blk u K6.out) 5).trans rfl)
        have CK66 := Aside0.mk (show ∀ W, Up Y W → W.cell? ⟨g6, 6, none⟩ = some (.int .i64 y6) from fun W u => (blk_cell (Up.blk u K6.out) 6).trans rfl)
        have CK67 := Aside0.mk (show ∀ W, Up Y W → W.cell? ⟨g6, 7, none⟩ = some (.int .i64 y7) from fun W u => (blk_cell (Up.blk u K6.out) 7).trans rfl)
        have X1Y := Aside0.mk (fun W (u : Up Y W) => X1.out W (Up.step HB4.out u))
        go_upto_region 14 with (fail)
        first | (go_region_held3 (fun w' => Up Y w' ∧ w'.cell? ⟨g2, 0, none⟩ = some (.int .i64 y0) ∧ w'.cell? ⟨g2, 1, none⟩ = some (.int .i64 y1) ∧ w'.cell? ⟨g2, 2, none⟩ = some (.int .i64 y2) ∧ w'.cell? ⟨g2, 3, none⟩ = some (.int .i64 y3) ∧ w'.cell? ⟨g2, 4, none⟩ = some (.int .i64 x4) ∧ w'.cell? ⟨g2, 5, none⟩ = some (.int .i64 x5) ∧ w'.cell? ⟨g2, 6, none⟩ = some (.int .i64 y6) ∧ w'.cell? ⟨g2, 7, none⟩ = some (.int .i64 y7) ∧ w'.cell? ⟨g8, 0, none⟩ = some (.int .i64 y0) ∧ w'.cell? ⟨g8, 1, none⟩ = some (.int .i64 y1) ∧ w'.cell? ⟨g8, 2, none⟩ = some (.int .i64 y2) ∧ w'.cell? ⟨g8, 3, none⟩ = some (.int .i64 y3) ∧ w'.cell? ⟨g8, 4, none⟩ = some (.int .i64 x4) ∧ w'.cell? ⟨g8, 5, none⟩ = some (.int .i64 x5) ∧ w'.cell? ⟨g8, 6, none⟩ = some (.int .i64 y6) ∧ w'.cell? ⟨g8, 7, none⟩ = some (.int .i64 y7) ∧ w'.cell? ⟨g6, 0, none⟩ = some (.int .i64 y0) ∧ w'.cell? ⟨g6, 1, none⟩ = some (.int .i64 y1) ∧ w'.cell? ⟨g6, 2, none⟩ = some (.int .i64 y2) ∧ w'.cell? ⟨g6, 3, none⟩ = some (.int .i64 y3) ∧ w'.cell? ⟨g6, 4, none⟩ = some (.int .i64 y4) ∧ w'.cell? ⟨g6, 5, none⟩ = some (.int .i64 y5) ∧ w'.cell? ⟨g6, 6, none⟩ = some (.int .i64 y6) ∧ w'.cell? ⟨g6, 7, none⟩ = some (.int .i64 y7) ∧ w'.cell? ⟨(ad.add (i.toNat * 2)).block, (ad.add (i.toNat * 2)).off + 1, none⟩ = some (.int .i64 y5)) (first | (have hU_ := (Up.refl Y).drew; exact ⟨hU_, CK20.out _ hU_, CK21.out _ hU_, CK22.out _ hU_, CK23.out _ hU_, CK24.out _ hU_, CK25.out _ hU_, CK26.out _ hU_, CK27.out _ hU_, CK80.out _ hU_, CK81.out _ hU_, CK82.out _ hU_, CK83.out _ hU_, CK84.out _ hU_, CK85.out _ hU_, CK86.out _ hU_, CK87.out _ hU_, CK60.out _ hU_, CK61.out _ hU_, CK62.out _ hU_, CK63.out _ hU_, CK64.out _ hU_, CK65.out _ hU_, CK66.out _ hU_, CK67.out _ hU_, X1Y.out _ hU_⟩) | (have hU_ : Up Y _ := (by assumption); exact ⟨hU_, CK20.out _ hU_, CK21.out _ hU_, CK22.out _ hU_, CK23.out _ hU_, CK24.out _ hU_, CK25.out _ hU_, CK26.out _ hU_, CK27.out _ hU_, CK80.out _ hU_, CK81.out _ hU_, CK82.out _ hU_, CK83.out _ hU_, CK84.out _ hU_, CK85.out _ hU_, CK86.out _ hU_, CK87.out _ hU_, CK60.out _ hU_, CK61.out _ hU_, CK62.out _ hU_, CK63.out _ hU_, CK64.out _ hU_, CK65.out _ hU_, CK66.out _ hU_, CK67.out _ hU_, X1Y.out _ hU_⟩)) (first | (go_at_call 13; (with_reducible refine (single_c y0 y1 y2 y3 y4 y5 y6 y7 true _ HS.out).mono ?_); rintro e w3 ⟨rfl, hb⟩; have hU := Up.step (w := Y) (by first | assumption | exact (Up.refl Y).drew) hb; clear hb))) | fail
        all_goals
          have hb2 := (show Up Y _ by assumption)
          have K2 := Aside0.mk (Up.blk hb2 K2.out)
          have K6 := Aside0.mk (Up.blk hb2 K6.out)
          have HB5 := Aside0.mk (Up.step HB4.out hb2)
          clear hb2
          have q0 := (blk_cell K2.out 0).trans rfl
          have q1 := (blk_cell K2.out 1).trans rfl
          have q2 := (blk_cell K2.out 2).trans rfl
          have q3 := (blk_cell K2.out 3).trans rfl
          have q4 := (blk_cell K2.out 4).trans rfl
          have q5 := (blk_cell K2.out 5).trans rfl
          have q6 := (blk_cell K2.out 6).trans rfl
          have q7 := (blk_cell K2.out 7).trans rfl
          simp only [List.getElem?_toArray, List.getElem?_cons_zero, List.getElem?_cons_succ] at q0 q1 q2 q3 q4 q5 q6 q7
          have s0 := (blk_cell K6.out 0).trans rfl
          have s1 := (blk_cell K6.out 1).trans rfl
          have s2 := (blk_cell K6.out 2).trans rfl
          have s3 := (blk_cell K6.out 3).trans rfl
          have s4 := (blk_cell K6.out 4).trans rfl
          have s5 := (blk_cell K6.out 5).trans rfl
          have s6 := (blk_cell K6.out 6).trans rfl
          have s7 := (blk_cell K6.out 7).trans rfl
          simp only [List.getElem?_toArray, List.getElem?_cons_zero, List.getElem?_cons_succ] at s0 s1 s2 s3 s4 s5 s6 s7
          have p0 := X0.out _ HB5.out
          have p1 := X1.out _ HB5.out
          have z0 := blk_frozen K2.out 0
          have z1 := blk_frozen K2.out 1
          have z2 := blk_frozen K2.out 2
          have z3 := blk_frozen K2.out 3
          have z4 := blk_frozen K2.out 4
          have z5 := blk_frozen K2.out 5
          have z6 := blk_frozen K2.out 6
          have z7 := blk_frozen K2.out 7
          clear CK20 CK21 CK22 CK23 CK24 CK25 CK26 CK27 CK80 CK81 CK82 CK83 CK84 CK85 CK86 CK87 CK60 CK61 CK62 CK63 CK64 CK65 CK66 CK67 X1Y K8 T5 H0 HY
          obtain ⟨d, hd⟩ : ∃ d, wrap64 (y5 - x5) = d := ⟨_, rfl⟩
          have hdk : IntKind.i64.wrap (y5 - x5) = d := (i64_w _).trans hd
          clear t5
          by_cases hk0 : k = 0
          · obtain ⟨e4, e5, e6⟩ := HK0.out hk0
            (try simp only at e4 e5 e6)
            rw [hd] at e6
            subst e4 e5 hk0
            replace e6 := decide_eq_false (show ¬ d < y7 by omega)
            have hgg := HG2.out
            have K2p := Aside0.mk (blkput_8 (b0 := .int .i64 y0) (b1 := .int .i64 y1) (b2 := .int .i64 y2) (b3 := .int .i64 y3) (b4 := .int .i64 1) (b5 := .int .i64 y5) (b6 := .int .i64 y6) (b7 := .int .i64 y7) K2.out)
            clear q0 q1 q2 q3 s0 s1 s2 s3 s6 s7 z0 z1 z2 z3 z4 z5 z6 z7 p1
            go_upto_region 16 with (fail)
            refine wp_region_lit ?_
            simp only [List.append_eq, List.cons_append, List.nil_append]
            with_reducible refine wl_on (v := .slice (some ad) l.length c0) (W1 := w3) (by kernel_rfl) (by kernel_rfl) ?_; (try simp only [Act.put, List.setIfInBounds_toArray, List.set_cons_zero, List.set_cons_succ])
            with_reducible refine wl_on (v := .int .i64 i) (W1 := w3) (by kernel_rfl) (by kernel_rfl) ?_; (try simp only [Act.put, List.setIfInBounds_toArray, List.set_cons_zero, List.set_cons_succ])
            with_reducible refine wl_on (v := .pointer (some (ad.add (i.toNat * 2)))) (W1 := w3) (by kernel_rfl) (by go_simp) ?_; (try simp only [Act.put, List.setIfInBounds_toArray, List.set_cons_zero, List.set_cons_succ])
            with_reducible refine wl_on (v := .pointer (some (ad.add (i.toNat * 2)))) (W1 := w3) (by kernel_rfl) (by go_simp) ?_; (try simp only [Act.put, List.setIfInBounds_toArray, List.set_cons_zero, List.set_cons_succ])
            with_reducible refine wl_on (v := .int .i64 0) (W1 := w3) (by kernel_rfl) (by go_simp) ?_; (try simp only [Act.put, List.setIfInBounds_toArray, List.set_cons_zero, List.set_cons_succ])
            with_reducible refine wl_on (v := .bool true) (W1 := w3) (by kernel_rfl) (by go_simp) ?_; (try simp only [Act.put, List.setIfInBounds_toArray, List.set_cons_zero, List.set_cons_succ])
            with_reducible refine wl_on (v := .bool true) (W1 := w3) (by kernel_rfl) (by kernel_rfl) ?_; (try simp only [Act.put, List.setIfInBounds_toArray, List.set_cons_zero, List.set_cons_succ])
            with_reducible refine wl_on (v := .pointer (some ⟨g2, 4, none⟩)) (W1 := w3) (by kernel_rfl) (by go_simp) ?_; (try simp only [Act.put, List.setIfInBounds_toArray, List.set_cons_zero, List.set_cons_succ])
            with_reducible refine wl_on (v := .int .i64 0) (W1 := w3) (by kernel_rfl) (by go_simp) ?_; (try simp only [Act.put, List.setIfInBounds_toArray, List.set_cons_zero, List.set_cons_succ])
            with_reducible refine wl_on (v := .bool false) (W1 := w3) (by kernel_rfl) (by go_simp) ?_; (try simp only [Act.put, List.setIfInBounds_toArray, List.set_cons_zero, List.set_cons_succ])
            with_reducible refine wl_on (v := .bool false) (W1 := w3) (by kernel_rfl) (by kernel_rfl) ?_; (try simp only [Act.put, List.setIfInBounds_toArray, List.set_cons_zero, List.set_cons_succ])
            with_reducible refine wl_on (v := .pointer (some ⟨g6, 4, none⟩)) (W1 := w3) (by kernel_rfl) (by go_simp) ?_; (try simp only [Act.put, List.setIfInBounds_toArray, List.set_cons_zero, List.set_cons_succ])
            with_reducible refine wl_on (v := .int .i64 1) (W1 := w3) (by kernel_rfl) (by go_simp) ?_; (try simp only [Act.put, List.setIfInBounds_toArray, List.set_cons_zero, List.set_cons_succ])
            with_reducible refine wl_on (v := .bool false) (W1 := w3) (by kernel_rfl) (by go_simp) ?_; (try simp only [Act.put, List.setIfInBounds_toArray, List.set_cons_zero, List.set_cons_succ])
            with_reducible refine wl_on (v := .bool false) (W1 := w3) (by kernel_rfl) (by kernel_rfl) ?_; (try simp only [Act.put, List.setIfInBounds_toArray, List.set_cons_zero, List.set_cons_succ])
            with_reducible refine wl_on (v := .bool false) (W1 := w3) (by kernel_rfl) (by kernel_rfl) ?_; (try simp only [Act.put, List.setIfInBounds_toArray, List.set_cons_zero, List.set_cons_succ])
            with_reducible refine wl_on (v := .pointer (some ⟨g6, 5, none⟩)) (W1 := w3) (by kernel_rfl) (by go_simp) ?_; (try simp only [Act.put, List.setIfInBounds_toArray, List.set_cons_zero, List.set_cons_succ])
            with_reducible refine wl_on (v := .int .i64 y5) (W1 := w3) (by kernel_rfl) (by go_simp) ?_; (try simp only [Act.put, List.setIfInBounds_toArray, List.set_cons_zero, List.set_cons_succ])
            with_reducible refine wl_on (v := .pointer (some ⟨g2, 5, none⟩)) (W1 := w3) (by kernel_rfl) (by go_simp) ?_; (try simp only [Act.put, List.setIfInBounds_toArray, List.set_cons_zero, List.set_cons_succ])
            with_reducible refine wl_on (v := .int .i64 x5) (W1 := w3) (by kernel_rfl) (by go_simp) ?_; (try simp only [Act.put, List.setIfInBounds_toArray, List.set_cons_zero, List.set_cons_succ])
            with_reducible refine wl_on (v := .int .i64 d) (W1 := w3) (by kernel_rfl) (by go_simp) ?_; (try simp only [Act.put, List.setIfInBounds_toArray, List.set_cons_zero, List.set_cons_succ])
            with_reducible refine wl_on (v := .pointer (some ⟨g2, 7, none⟩)) (W1 := w3) (by kernel_rfl) (by go_simp) ?_; (try simp only [Act.put, List.setIfInBounds_toArray, List.set_cons_zero, List.set_cons_succ])
            with_reducible refine wl_on (v := .int .i64 y7) (W1 := w3) (by kernel_rfl) (by go_simp) ?_; (try simp only [Act.put, List.setIfInBounds_toArray, List.set_cons_zero, List.set_cons_succ])
            with_reducible refine wl_on (v := .bool false) (W1 := w3) (by kernel_rfl) (by go_simp) ?_; (try simp only [Act.put, List.setIfInBounds_toArray, List.set_cons_zero, List.set_cons_succ])
            with_reducible refine wl_on (v := .bool false) (W1 := w3) (by kernel_rfl) (by kernel_rfl) ?_; (try simp only [Act.put, List.setIfInBounds_toArray, List.set_cons_zero, List.set_cons_succ])
            with_reducible refine wl_on (v := .bool false) (W1 := w3) (by kernel_rfl) (by kernel_rfl) ?_; (try simp only [Act.put, List.setIfInBounds_toArray, List.set_cons_zero, List.set_cons_succ])
            with_reducible refine wl_on (v := .bool false) (W1 := w3) (by kernel_rfl) (by kernel_rfl) ?_; (try simp only [Act.put, List.setIfInBounds_toArray, List.set_cons_zero, List.set_cons_succ])
            with_reducible refine wl_on (v := .slice (some ad) l.length c0) (W1 := w3) (by kernel_rfl) (by kernel_rfl) ?_; (try simp only [Act.put, List.setIfInBounds_toArray, List.set_cons_zero, List.set_cons_succ])
            with_reducible refine wl_on (v := .int .i64 i) (W1 := w3) (by kernel_rfl) (by kernel_rfl) ?_; (try simp only [Act.put, List.setIfInBounds_toArray, List.set_cons_zero, List.set_cons_succ])
            with_reducible refine wl_on (v := .pointer (some (ad.add (i.toNat * 2)))) (W1 := w3) (by kernel_rfl) (by go_simp) ?_; (try simp only [Act.put, List.setIfInBounds_toArray, List.set_cons_zero, List.set_cons_succ])
            with_reducible refine wl_on (v := .pointer (some (ad.add (i.toNat * 2)))) (W1 := w3) (by kernel_rfl) (by go_simp) ?_; (try simp only [Act.put, List.setIfInBounds_toArray, List.set_cons_zero, List.set_cons_succ])
            with_reducible refine wl_on (v := .int .i64 0) (W1 := w3) (by kernel_rfl) (by go_simp) ?_; (try simp only [Act.put, List.setIfInBounds_toArray, List.set_cons_zero, List.set_cons_succ])
            with_reducible refine wl_on (v := .bool false) (W1 := w3) (by kernel_rfl) (by go_simp) ?_; (try simp only [Act.put, List.setIfInBounds_toArray, List.set_cons_zero, List.set_cons_succ])
            with_reducible refine wl_on (v := .bool false) (W1 := w3) (by kernel_rfl) (by kernel_rfl) ?_; (try simp only [Act.put, List.setIfInBounds_toArray, List.set_cons_zero, List.set_cons_succ])
            with_reducible refine wl_off (by kernel_rfl) ?_; (try simp only [Act.put, List.setIfInBounds_toArray, List.set_cons_zero, List.set_cons_succ])
            with_reducible refine wl_off (by kernel_rfl) ?_; (try simp only [Act.put, List.setIfInBounds_toArray, List.set_cons_zero, List.set_cons_succ])
            with_reducible refine wl_off (by kernel_rfl) ?_; (try simp only [Act.put, List.setIfInBounds_toArray, List.set_cons_zero, List.set_cons_succ])
            with_reducible refine wl_off (by kernel_rfl) ?_; (try simp only [Act.put, List.setIfInBounds_toArray, List.set_cons_zero, List.set_cons_succ])
            with_reducible refine wl_off (by kernel_rfl) ?_; (try simp only [Act.put, List.setIfInBounds_toArray, List.set_cons_zero, List.set_cons_succ])
            with_reducible refine wl_off (by kernel_rfl) ?_; (try simp only [Act.put, List.setIfInBounds_toArray, List.set_cons_zero, List.set_cons_succ])
            with_reducible refine wl_off (by kernel_rfl) ?_; (try simp only [Act.put, List.setIfInBounds_toArray, List.set_cons_zero, List.set_cons_succ])
            with_reducible refine wl_off (by kernel_rfl) ?_; (try simp only [Act.put, List.setIfInBounds_toArray, List.set_cons_zero, List.set_cons_succ])
            with_reducible refine wl_off (by kernel_rfl) ?_; (try simp only [Act.put, List.setIfInBounds_toArray, List.set_cons_zero, List.set_cons_succ])
            with_reducible refine wl_off (by kernel_rfl) ?_; (try simp only [Act.put, List.setIfInBounds_toArray, List.set_cons_zero, List.set_cons_succ])
            with_reducible refine wl_off (by kernel_rfl) ?_; (try simp only [Act.put, List.setIfInBounds_toArray, List.set_cons_zero, List.set_cons_succ])
            with_reducible refine wl_off (by kernel_rfl) ?_; (try simp only [Act.put, List.setIfInBounds_toArray, List.set_cons_zero, List.set_cons_succ])
            with_reducible refine wl_off (by kernel_rfl) ?_; (try simp only [Act.put, List.setIfInBounds_toArray, List.set_cons_zero, List.set_cons_succ])
            with_reducible refine wl_off (by kernel_rfl) ?_; (try simp only [Act.put, List.setIfInBounds_toArray, List.set_cons_zero, List.set_cons_succ])
            with_reducible refine wl_off (by kernel_rfl) ?_; (try simp only [Act.put, List.setIfInBounds_toArray, List.set_cons_zero, List.set_cons_succ])
            with_reducible refine wl_off (by kernel_rfl) ?_; (try simp only [Act.put, List.setIfInBounds_toArray, List.set_cons_zero, List.set_cons_succ])
            with_reducible refine wl_off (by kernel_rfl) ?_; (try simp only [Act.put, List.setIfInBounds_toArray, List.set_cons_zero, List.set_cons_succ])
            with_reducible refine wl_off (by kernel_rfl) ?_; (try simp only [Act.put, List.setIfInBounds_toArray, List.set_cons_zero, List.set_cons_succ])
            with_reducible refine wl_on (v := .bool false) (W1 := w3) (by kernel_rfl) (by kernel_rfl) ?_; (try simp only [Act.put, List.setIfInBounds_toArray, List.set_cons_zero, List.set_cons_succ])
            with_reducible refine wl_on (v := .bool false) (W1 := w3) (by kernel_rfl) (by kernel_rfl) ?_; (try simp only [Act.put, List.setIfInBounds_toArray, List.set_cons_zero, List.set_cons_succ])
            with_reducible refine wl_on (v := .bool false) (W1 := w3) (by kernel_rfl) (by kernel_rfl) ?_; (try simp only [Act.put, List.setIfInBounds_toArray, List.set_cons_zero, List.set_cons_succ])
            with_reducible refine wl_on (v := .slice (some ad) l.length c0) (W1 := w3) (by kernel_rfl) (by kernel_rfl) ?_; (try simp only [Act.put, List.setIfInBounds_toArray, List.set_cons_zero, List.set_cons_succ])
            with_reducible refine wl_on (v := .int .i64 i) (W1 := w3) (by kernel_rfl) (by kernel_rfl) ?_; (try simp only [Act.put, List.setIfInBounds_toArray, List.set_cons_zero, List.set_cons_succ])
            with_reducible refine wl_on (v := .pointer (some (ad.add (i.toNat * 2)))) (W1 := w3) (by kernel_rfl) (by go_simp) ?_; (try simp only [Act.put, List.setIfInBounds_toArray, List.set_cons_zero, List.set_cons_succ])
            with_reducible refine wl_on (v := .pointer (some (ad.add (i.toNat * 2)))) (W1 := w3) (by kernel_rfl) (by go_simp) ?_; (try simp only [Act.put, List.setIfInBounds_toArray, List.set_cons_zero, List.set_cons_succ])
            with_reducible refine wl_on (v := .int .i64 0) (W1 := w3) (by kernel_rfl) (by go_simp) ?_; (try simp only [Act.put, List.setIfInBounds_toArray, List.set_cons_zero, List.set_cons_succ])
            with_reducible refine wl_on (v := .bool false) (W1 := w3) (by kernel_rfl) (by go_simp) ?_; (try simp only [Act.put, List.setIfInBounds_toArray, List.set_cons_zero, List.set_cons_succ])
            with_reducible refine wl_on (v := .bool false) (W1 := w3) (by kernel_rfl) (by kernel_rfl) ?_; (try simp only [Act.put, List.setIfInBounds_toArray, List.set_cons_zero, List.set_cons_succ])
            with_reducible refine wl_off (by kernel_rfl) ?_; (try simp only [Act.put, List.setIfInBounds_toArray, List.set_cons_zero, List.set_cons_succ])
            with_reducible refine wl_off (by kernel_rfl) ?_; (try simp only [Act.put, List.setIfInBounds_toArray, List.set_cons_zero, List.set_cons_succ])
            with_reducible refine wl_off (by kernel_rfl) ?_; (try simp only [Act.put, List.setIfInBounds_toArray, List.set_cons_zero, List.set_cons_succ])
            with_reducible refine wl_on (v := .bool false) (W1 := w3) (by kernel_rfl) (by kernel_rfl) ?_; (try simp only [Act.put, List.setIfInBounds_toArray, List.set_cons_zero, List.set_cons_succ])
            with_reducible refine wl_on (v := .bool false) (W1 := w3) (by kernel_rfl) (by kernel_rfl) ?_; (try simp only [Act.put, List.setIfInBounds_toArray, List.set_cons_zero, List.set_cons_succ])
            refine wpList_nil ?_
            have q0 := (blk_cell K2.out 0).trans rfl
            have q1 := (blk_cell K2.out 1).trans rfl
            have q2 := (blk_cell K2.out 2).trans rfl
            have q3 := (blk_cell K2.out 3).trans rfl
            have s0 := (blk_cell K6.out 0).trans rfl
            have s1 := (blk_cell K6.out 1).trans rfl
            have s2 := (blk_cell K6.out 2).trans rfl
            have s3 := (blk_cell K6.out 3).trans rfl
            have s6 := (blk_cell K6.out 6).trans rfl
            have s7 := (blk_cell K6.out 7).trans rfl
            simp only [List.getElem?_toArray, List.getElem?_cons_zero, List.getElem?_cons_succ] at q0 q1 q2 q3 s0 s1 s2 s3 s6 s7
            have z0 := blk_frozen K2.out 0
            have z1 := blk_frozen K2.out 1
            have z2 := blk_frozen K2.out 2
            have z3 := blk_frozen K2.out 3
            have z4 := blk_frozen K2.out 4
            have z5 := blk_frozen K2.out 5
            have z6 := blk_frozen K2.out 6
            have z7 := blk_frozen K2.out 7
            go_wp2
            go_roundg (gk - 1)
            case measure => have := HL.out; have := HI.out; have := HG.out; omega
            case rel => exact ⟨i + 1, ⟨y0, y1, y2, y3, 1, y5, y6, y7⟩, (by first | rfl | (simp; done) | (have := HL.out; have := HI.out; have := HN.out; congr 1; unfold wrap64; omega)), by have := HI.out; omega, by have := HL.out; have := HI.out; have := HG.out; omega, HS, K2p, ⟨(by have HU_ := HB5.out; repeat (with_reducible first | exact HU_ | refine Up.set ?_ (by omega) | apply Up.alloc | apply Up.drewN | apply Up.drew))⟩⟩
          by_cases hk1 : k = 1
          · obtain ⟨e4, e5, e6⟩ := HK1.out hk1
            (try simp only at e4 e5 e6)
            rw [hd] at e6
            subst e4 e5 hk1
            replace e6 := decide_eq_false (show ¬ d < y6 by omega)
            have hgg := HG2.out
            have K2p := Aside0.mk (blkput_8 (b0 := .int .i64 y0) (b1 := .int .i64 y1) (b2 := .int .i64 y2) (b3 := .int .i64 y3) (b4 := .int .i64 0) (b5 := .int .i64 y5) (b6 := .int .i64 y6) (b7 := .int .i64 y7) K2.out)
            clear q0 q1 q2 q3 s0 s1 s2 s3 s6 s7 z0 z1 z2 z3 z4 z5 z6 z7 p1
            go_upto_region 16 with (fail)
            refine wp_region_lit ?_
            simp only [List.append_eq, List.cons_append, List.nil_append]
            with_reducible refine wl_on (v := .slice (some ad) l.length c0) (W1 := w3) (by kernel_rfl) (by kernel_rfl) ?_; (try simp only [Act.put, List.setIfInBounds_toArray, List.set_cons_zero, List.set_cons_succ])
            with_reducible refine wl_on (v := .int .i64 i) (W1 := w3) (by kernel_rfl) (by kernel_rfl) ?_; (try simp only [Act.put, List.setIfInBounds_toArray, List.set_cons_zero, List.set_cons_succ])
            with_reducible refine wl_on (v := .pointer (some (ad.add (i.toNat * 2)))) (W1 := w3) (by kernel_rfl) (by go_simp) ?_; (try simp only [Act.put, List.setIfInBounds_toArray, List.set_cons_zero, List.set_cons_succ])
            with_reducible refine wl_on (v := .pointer (some (ad.add (i.toNat * 2)))) (W1 := w3) (by kernel_rfl) (by go_simp) ?_; (try simp only [Act.put, List.setIfInBounds_toArray, List.set_cons_zero, List.set_cons_succ])
            with_reducible refine wl_on (v := .int .i64 1) (W1 := w3) (by kernel_rfl) (by go_simp) ?_; (try simp only [Act.put, List.setIfInBounds_toArray, List.set_cons_zero, List.set_cons_succ])
            with_reducible refine wl_on (v := .bool false) (W1 := w3) (by kernel_rfl) (by go_simp) ?_; (try simp only [Act.put, List.setIfInBounds_toArray, List.set_cons_zero, List.set_cons_succ])
            with_reducible refine wl_on (v := .bool false) (W1 := w3) (by kernel_rfl) (by kernel_rfl) ?_; (try simp only [Act.put, List.setIfInBounds_toArray, List.set_cons_zero, List.set_cons_succ])
            with_reducible refine wl_off (by kernel_rfl) ?_; (try simp only [Act.put, List.setIfInBounds_toArray, List.set_cons_zero, List.set_cons_succ])
            with_reducible refine wl_off (by kernel_rfl) ?_; (try simp only [Act.put, List.setIfInBounds_toArray, List.set_cons_zero, List.set_cons_succ])
            with_reducible refine wl_off (by kernel_rfl) ?_; (try simp only [Act.put, List.setIfInBounds_toArray, List.set_cons_zero, List.set_cons_succ])
            with_reducible refine wl_off (by kernel_rfl) ?_; (try simp only [Act.put, List.setIfInBounds_toArray, List.set_cons_zero, List.set_cons_succ])
            with_reducible refine wl_off (by kernel_rfl) ?_; (try simp only [Act.put, List.setIfInBounds_toArray, List.set_cons_zero, List.set_cons_succ])
            with_reducible refine wl_off (by kernel_rfl) ?_; (try simp only [Act.put, List.setIfInBounds_toArray, List.set_cons_zero, List.set_cons_succ])
            with_reducible refine wl_off (by kernel_rfl) ?_; (try simp only [Act.put, List.setIfInBounds_toArray, List.set_cons_zero, List.set_cons_succ])
            with_reducible refine wl_off (by kernel_rfl) ?_; (try simp only [Act.put, List.setIfInBounds_toArray, List.set_cons_zero, List.set_cons_succ])
            with_reducible refine wl_off (by kernel_rfl) ?_; (try simp only [Act.put, List.setIfInBounds_toArray, List.set_cons_zero, List.set_cons_succ])
            with_reducible refine wl_off (by kernel_rfl) ?_; (try simp only [Act.put, List.setIfInBounds_toArray, List.set_cons_zero, List.set_cons_succ])
            with_reducible refine wl_off (by kernel_rfl) ?_; (try simp only [Act.put, List.setIfInBounds_toArray, List.set_cons_zero, List.set_cons_succ])
            with_reducible refine wl_off (by kernel_rfl) ?_; (try simp only [Act.put, List.setIfInBounds_toArray, List.set_cons_zero, List.set_cons_succ])
            with_reducible refine wl_off (by kernel_rfl) ?_; (try simp only [Act.put, List.setIfInBounds_toArray, List.set_cons_zero, List.set_cons_succ])
            with_reducible refine wl_off (by kernel_rfl) ?_; (try simp only [Act.put, List.setIfInBounds_toArray, List.set_cons_zero, List.set_cons_succ])
            with_reducible refine wl_off (by kernel_rfl) ?_; (try simp only [Act.put, List.setIfInBounds_toArray, List.set_cons_zero, List.set_cons_succ])
            with_reducible refine wl_off (by kernel_rfl) ?_; (try simp only [Act.put, List.setIfInBounds_toArray, List.set_cons_zero, List.set_cons_succ])
            with_reducible refine wl_off (by kernel_rfl) ?_; (try simp only [Act.put, List.setIfInBounds_toArray, List.set_cons_zero, List.set_cons_succ])
            with_reducible refine wl_off (by kernel_rfl) ?_; (try simp only [Act.put, List.setIfInBounds_toArray, List.set_cons_zero, List.set_cons_succ])
            with_reducible refine wl_on (v := .bool false) (W1 := w3) (by kernel_rfl) (by kernel_rfl) ?_; (try simp only [Act.put, List.setIfInBounds_toArray, List.set_cons_zero, List.set_cons_succ])
            with_reducible refine wl_on (v := .bool false) (W1 := w3) (by kernel_rfl) (by kernel_rfl) ?_; (try simp only [Act.put, List.setIfInBounds_toArray, List.set_cons_zero, List.set_cons_succ])
            with_reducible refine wl_on (v := .slice (some ad) l.length c0) (W1 := w3) (by kernel_rfl) (by kernel_rfl) ?_; (try simp only [Act.put, List.setIfInBounds_toArray, List.set_cons_zero, List.set_cons_succ])
            with_reducible refine wl_on (v := .int .i64 i) (W1 := w3) (by kernel_rfl) (by kernel_rfl) ?_; (try simp only [Act.put, List.setIfInBounds_toArray, List.set_cons_zero, List.set_cons_succ])
            with_reducible refine wl_on (v := .pointer (some (ad.add (i.toNat * 2)))) (W1 := w3) (by kernel_rfl) (by go_simp) ?_; (try simp only [Act.put, List.setIfInBounds_toArray, List.set_cons_zero, List.set_cons_succ])
            with_reducible refine wl_on (v := .pointer (some (ad.add (i.toNat * 2)))) (W1 := w3) (by kernel_rfl) (by go_simp) ?_; (try simp only [Act.put, List.setIfInBounds_toArray, List.set_cons_zero, List.set_cons_succ])
            with_reducible refine wl_on (v := .int .i64 1) (W1 := w3) (by kernel_rfl) (by go_simp) ?_; (try simp only [Act.put, List.setIfInBounds_toArray, List.set_cons_zero, List.set_cons_succ])
            with_reducible refine wl_on (v := .bool true) (W1 := w3) (by kernel_rfl) (by go_simp) ?_; (try simp only [Act.put, List.setIfInBounds_toArray, List.set_cons_zero, List.set_cons_succ])
            with_reducible refine wl_on (v := .bool true) (W1 := w3) (by kernel_rfl) (by kernel_rfl) ?_; (try simp only [Act.put, List.setIfInBounds_toArray, List.set_cons_zero, List.set_cons_succ])
            with_reducible refine wl_on (v := .pointer (some ⟨g2, 4, none⟩)) (W1 := w3) (by kernel_rfl) (by go_simp) ?_; (try simp only [Act.put, List.setIfInBounds_toArray, List.set_cons_zero, List.set_cons_succ])
            with_reducible refine wl_on (v := .int .i64 1) (W1 := w3) (by kernel_rfl) (by go_simp) ?_; (try simp only [Act.put, List.setIfInBounds_toArray, List.set_cons_zero, List.set_cons_succ])
            with_reducible refine wl_on (v := .bool false) (W1 := w3) (by kernel_rfl) (by go_simp) ?_; (try simp only [Act.put, List.setIfInBounds_toArray, List.set_cons_zero, List.set_cons_succ])
            with_reducible refine wl_on (v := .bool false) (W1 := w3) (by kernel_rfl) (by kernel_rfl) ?_; (try simp only [Act.put, List.setIfInBounds_toArray, List.set_cons_zero, List.set_cons_succ])
            with_reducible refine wl_on (v := .pointer (some ⟨g6, 4, none⟩)) (W1 := w3) (by kernel_rfl) (by go_simp) ?_; (try simp only [Act.put, List.setIfInBounds_toArray, List.set_cons_zero, List.set_cons_succ])
            with_reducible refine wl_on (v := .int .i64 0) (W1 := w3) (by kernel_rfl) (by go_simp) ?_; (try simp only [Act.put, List.setIfInBounds_toArray, List.set_cons_zero, List.set_cons_succ])
            with_reducible refine wl_on (v := .bool false) (W1 := w3) (by kernel_rfl) (by go_simp) ?_; (try simp only [Act.put, List.setIfInBounds_toArray, List.set_cons_zero, List.set_cons_succ])
            with_reducible refine wl_on (v := .bool false) (W1 := w3) (by kernel_rfl) (by kernel_rfl) ?_; (try simp only [Act.put, List.setIfInBounds_toArray, List.set_cons_zero, List.set_cons_succ])
            with_reducible refine wl_on (v := .bool false) (W1 := w3) (by kernel_rfl) (by kernel_rfl) ?_; (try simp only [Act.put, List.setIfInBounds_toArray, List.set_cons_zero, List.set_cons_succ])
            with_reducible refine wl_on (v := .pointer (some ⟨g6, 5, none⟩)) (W1 := w3) (by kernel_rfl) (by go_simp) ?_; (try simp only [Act.put, List.setIfInBounds_toArray, List.set_cons_zero, List.set_cons_succ])
            with_reducible refine wl_on (v := .int .i64 y5) (W1 := w3) (by kernel_rfl) (by go_simp) ?_; (try simp only [Act.put, List.setIfInBounds_toArray, List.set_cons_zero, List.set_cons_succ])
            with_reducible refine wl_on (v := .pointer (some ⟨g2, 5, none⟩)) (W1 := w3) (by kernel_rfl) (by go_simp) ?_; (try simp only [Act.put, List.setIfInBounds_toArray, List.set_cons_zero, List.set_cons_succ])
            with_reducible refine wl_on (v := .int .i64 x5) (W1 := w3) (by kernel_rfl) (by go_simp) ?_; (try simp only [Act.put, List.setIfInBounds_toArray, List.set_cons_zero, List.set_cons_succ])
            with_reducible refine wl_on (v := .int .i64 d) (W1 := w3) (by kernel_rfl) (by go_simp) ?_; (try simp only [Act.put, List.setIfInBounds_toArray, List.set_cons_zero, List.set_cons_succ])
            with_reducible refine wl_on (v := .pointer (some ⟨g2, 6, none⟩)) (W1 := w3) (by kernel_rfl) (by go_simp) ?_; (try simp only [Act.put, List.setIfInBounds_toArray, List.set_cons_zero, List.set_cons_succ])
            with_reducible refine wl_on (v := .int .i64 y6) (W1 := w3) (by kernel_rfl) (by go_simp) ?_; (try simp only [Act.put, List.setIfInBounds_toArray, List.set_cons_zero, List.set_cons_succ])
            with_reducible refine wl_on (v := .bool false) (W1 := w3) (by kernel_rfl) (by go_simp) ?_; (try simp only [Act.put, List.setIfInBounds_toArray, List.set_cons_zero, List.set_cons_succ])
            with_reducible refine wl_on (v := .bool false) (W1 := w3) (by kernel_rfl) (by kernel_rfl) ?_; (try simp only [Act.put, List.setIfInBounds_toArray, List.set_cons_zero, List.set_cons_succ])
            with_reducible refine wl_on (v := .bool false) (W1 := w3) (by kernel_rfl) (by kernel_rfl) ?_; (try simp only [Act.put, List.setIfInBounds_toArray, List.set_cons_zero, List.set_cons_succ])
            with_reducible refine wl_on (v := .bool false) (W1 := w3) (by kernel_rfl) (by kernel_rfl) ?_; (try simp only [Act.put, List.setIfInBounds_toArray, List.set_cons_zero, List.set_cons_succ])
            with_reducible refine wl_on (v := .bool false) (W1 := w3) (by kernel_rfl) (by kernel_rfl) ?_; (try simp only [Act.put, List.setIfInBounds_toArray, List.set_cons_zero, List.set_cons_succ])
            with_reducible refine wl_on (v := .slice (some ad) l.length c0) (W1 := w3) (by kernel_rfl) (by kernel_rfl) ?_; (try simp only [Act.put, List.setIfInBounds_toArray, List.set_cons_zero, List.set_cons_succ])
            with_reducible refine wl_on (v := .int .i64 i) (W1 := w3) (by kernel_rfl) (by kernel_rfl) ?_; (try simp only [Act.put, List.setIfInBounds_toArray, List.set_cons_zero, List.set_cons_succ])
            with_reducible refine wl_on (v := .pointer (some (ad.add (i.toNat * 2)))) (W1 := w3) (by kernel_rfl) (by go_simp) ?_; (try simp only [Act.put, List.setIfInBounds_toArray, List.set_cons_zero, List.set_cons_succ])
            with_reducible refine wl_on (v := .pointer (some (ad.add (i.toNat * 2)))) (W1 := w3) (by kernel_rfl) (by go_simp) ?_; (try simp only [Act.put, List.setIfInBounds_toArray, List.set_cons_zero, List.set_cons_succ])
            with_reducible refine wl_on (v := .int .i64 1) (W1 := w3) (by kernel_rfl) (by go_simp) ?_; (try simp only [Act.put, List.setIfInBounds_toArray, List.set_cons_zero, List.set_cons_succ])
            with_reducible refine wl_on (v := .bool false) (W1 := w3) (by kernel_rfl) (by go_simp) ?_; (try simp only [Act.put, List.setIfInBounds_toArray, List.set_cons_zero, List.set_cons_succ])
            with_reducible refine wl_on (v := .bool false) (W1 := w3) (by kernel_rfl) (by kernel_rfl) ?_; (try simp only [Act.put, List.setIfInBounds_toArray, List.set_cons_zero, List.set_cons_succ])
            with_reducible refine wl_off (by kernel_rfl) ?_; (try simp only [Act.put, List.setIfInBounds_toArray, List.set_cons_zero, List.set_cons_succ])
            with_reducible refine wl_off (by kernel_rfl) ?_; (try simp only [Act.put, List.setIfInBounds_toArray, List.set_cons_zero, List.set_cons_succ])
            with_reducible refine wl_off (by kernel_rfl) ?_; (try simp only [Act.put, List.setIfInBounds_toArray, List.set_cons_zero, List.set_cons_succ])
            with_reducible refine wl_on (v := .bool false) (W1 := w3) (by kernel_rfl) (by kernel_rfl) ?_; (try simp only [Act.put, List.setIfInBounds_toArray, List.set_cons_zero, List.set_cons_succ])
            with_reducible refine wl_on (v := .bool false) (W1 := w3) (by kernel_rfl) (by kernel_rfl) ?_; (try simp only [Act.put, List.setIfInBounds_toArray, List.set_cons_zero, List.set_cons_succ])
            refine wpList_nil ?_
            have q0 := (blk_cell K2.out 0).trans rfl
            have q1 := (blk_cell K2.out 1).trans rfl
            have q2 := (blk_cell K2.out 2).trans rfl
            have q3 := (blk_cell K2.out 3).trans rfl
            have s0 := (blk_cell K6.out 0).trans rfl
            have s1 := (blk_cell K6.out 1).trans rfl
            have s2 := (blk_cell K6.out 2).trans rfl
            have s3 := (blk_cell K6.out 3).trans rfl
            have s6 := (blk_cell K6.out 6).trans rfl
            have s7 := (blk_cell K6.out 7).trans rfl
            simp only [List.getElem?_toArray, List.getElem?_cons_zero, List.getElem?_cons_succ] at q0 q1 q2 q3 s0 s1 s2 s3 s6 s7
            have z0 := blk_frozen K2.out 0
            have z1 := blk_frozen K2.out 1
            have z2 := blk_frozen K2.out 2
            have z3 := blk_frozen K2.out 3
            have z4 := blk_frozen K2.out 4
            have z5 := blk_frozen K2.out 5
            have z6 := blk_frozen K2.out 6
            have z7 := blk_frozen K2.out 7
            go_wp2
            go_roundg (gk - 1)
            case measure => have := HL.out; have := HI.out; have := HG.out; omega
            case rel => exact ⟨i + 1, ⟨y0, y1, y2, y3, 0, y5, y6, y7⟩, (by first | rfl | (simp; done) | (have := HL.out; have := HI.out; have := HN.out; congr 1; unfold wrap64; omega)), by have := HI.out; omega, by have := HL.out; have := HI.out; have := HG.out; omega, HS, K2p, ⟨(by have HU_ := HB5.out; repeat (with_reducible first | exact HU_ | refine Up.set ?_ (by omega) | apply Up.alloc | apply Up.drewN | apply Up.drew))⟩⟩
          by_cases hk2 : k = 2
          · have e5 := HK2.out hk2
            subst e5 hk2
            have hgg := HG2.out
            have K2p := Aside0.mk (blkput_8 (b0 := .int .i64 y0) (b1 := .int .i64 y1) (b2 := .int .i64 y2) (b3 := .int .i64 y3) (b4 := .int .i64 2) (b5 := .int .i64 y5) (b6 := .int .i64 y6) (b7 := .int .i64 y7) K2.out)
            clear q0 q1 q2 q3 s0 s1 s2 s3 s6 s7 z0 z1 z2 z3 z4 z5 z6 z7 p1
            go_upto_region 16 with (fail)
            refine wp_region_lit ?_
            simp only [List.append_eq, List.cons_append, List.nil_append]
            with_reducible refine wl_on (v := .slice (some ad) l.length c0) (W1 := w3) (by kernel_rfl) (by kernel_rfl) ?_; (try simp only [Act.put, List.setIfInBounds_toArray, List.set_cons_zero, List.set_cons_succ])
            with_reducible refine wl_on (v := .int .i64 i) (W1 := w3) (by kernel_rfl) (by kernel_rfl) ?_; (try simp only [Act.put, List.setIfInBounds_toArray, List.set_cons_zero, List.set_cons_succ])
            with_reducible refine wl_on (v := .pointer (some (ad.add (i.toNat * 2)))) (W1 := w3) (by kernel_rfl) (by go_simp) ?_; (try simp only [Act.put, List.setIfInBounds_toArray, List.set_cons_zero, List.set_cons_succ])
            with_reducible refine wl_on (v := .pointer (some (ad.add (i.toNat * 2)))) (W1 := w3) (by kernel_rfl) (by go_simp) ?_; (try simp only [Act.put, List.setIfInBounds_toArray, List.set_cons_zero, List.set_cons_succ])
            with_reducible refine wl_on (v := .int .i64 2) (W1 := w3) (by kernel_rfl) (by go_simp) ?_; (try simp only [Act.put, List.setIfInBounds_toArray, List.set_cons_zero, List.set_cons_succ])
            with_reducible refine wl_on (v := .bool false) (W1 := w3) (by kernel_rfl) (by go_simp) ?_; (try simp only [Act.put, List.setIfInBounds_toArray, List.set_cons_zero, List.set_cons_succ])
            with_reducible refine wl_on (v := .bool false) (W1 := w3) (by kernel_rfl) (by kernel_rfl) ?_; (try simp only [Act.put, List.setIfInBounds_toArray, List.set_cons_zero, List.set_cons_succ])
            with_reducible refine wl_off (by kernel_rfl) ?_; (try simp only [Act.put, List.setIfInBounds_toArray, List.set_cons_zero, List.set_cons_succ])
            with_reducible refine wl_off (by kernel_rfl) ?_; (try simp only [Act.put, List.setIfInBounds_toArray, List.set_cons_zero, List.set_cons_succ])
            with_reducible refine wl_off (by kernel_rfl) ?_; (try simp only [Act.put, List.setIfInBounds_toArray, List.set_cons_zero, List.set_cons_succ])
            with_reducible refine wl_off (by kernel_rfl) ?_; (try simp only [Act.put, List.setIfInBounds_toArray, List.set_cons_zero, List.set_cons_succ])
            with_reducible refine wl_off (by kernel_rfl) ?_; (try simp only [Act.put, List.setIfInBounds_toArray, List.set_cons_zero, List.set_cons_succ])
            with_reducible refine wl_off (by kernel_rfl) ?_; (try simp only [Act.put, List.setIfInBounds_toArray, List.set_cons_zero, List.set_cons_succ])
            with_reducible refine wl_off (by kernel_rfl) ?_; (try simp only [Act.put, List.setIfInBounds_toArray, List.set_cons_zero, List.set_cons_succ])
            with_reducible refine wl_off (by kernel_rfl) ?_; (try simp only [Act.put, List.setIfInBounds_toArray, List.set_cons_zero, List.set_cons_succ])
            with_reducible refine wl_off (by kernel_rfl) ?_; (try simp only [Act.put, List.setIfInBounds_toArray, List.set_cons_zero, List.set_cons_succ])
            with_reducible refine wl_off (by kernel_rfl) ?_; (try simp only [Act.put, List.setIfInBounds_toArray, List.set_cons_zero, List.set_cons_succ])
            with_reducible refine wl_off (by kernel_rfl) ?_; (try simp only [Act.put, List.setIfInBounds_toArray, List.set_cons_zero, List.set_cons_succ])
            with_reducible refine wl_off (by kernel_rfl) ?_; (try simp only [Act.put, List.setIfInBounds_toArray, List.set_cons_zero, List.set_cons_succ])
            with_reducible refine wl_off (by kernel_rfl) ?_; (try simp only [Act.put, List.setIfInBounds_toArray, List.set_cons_zero, List.set_cons_succ])
            with_reducible refine wl_off (by kernel_rfl) ?_; (try simp only [Act.put, List.setIfInBounds_toArray, List.set_cons_zero, List.set_cons_succ])
            with_reducible refine wl_off (by kernel_rfl) ?_; (try simp only [Act.put, List.setIfInBounds_toArray, List.set_cons_zero, List.set_cons_succ])
            with_reducible refine wl_off (by kernel_rfl) ?_; (try simp only [Act.put, List.setIfInBounds_toArray, List.set_cons_zero, List.set_cons_succ])
            with_reducible refine wl_off (by kernel_rfl) ?_; (try simp only [Act.put, List.setIfInBounds_toArray, List.set_cons_zero, List.set_cons_succ])
            with_reducible refine wl_off (by kernel_rfl) ?_; (try simp only [Act.put, List.setIfInBounds_toArray, List.set_cons_zero, List.set_cons_succ])
            with_reducible refine wl_on (v := .bool false) (W1 := w3) (by kernel_rfl) (by kernel_rfl) ?_; (try simp only [Act.put, List.setIfInBounds_toArray, List.set_cons_zero, List.set_cons_succ])
            with_reducible refine wl_on (v := .bool false) (W1 := w3) (by kernel_rfl) (by kernel_rfl) ?_; (try simp only [Act.put, List.setIfInBounds_toArray, List.set_cons_zero, List.set_cons_succ])
            with_reducible refine wl_on (v := .slice (some ad) l.length c0) (W1 := w3) (by kernel_rfl) (by kernel_rfl) ?_; (try simp only [Act.put, List.setIfInBounds_toArray, List.set_cons_zero, List.set_cons_succ])
            with_reducible refine wl_on (v := .int .i64 i) (W1 := w3) (by kernel_rfl) (by kernel_rfl) ?_; (try simp only [Act.put, List.setIfInBounds_toArray, List.set_cons_zero, List.set_cons_succ])
            with_reducible refine wl_on (v := .pointer (some (ad.add (i.toNat * 2)))) (W1 := w3) (by kernel_rfl) (by go_simp) ?_; (try simp only [Act.put, List.setIfInBounds_toArray, List.set_cons_zero, List.set_cons_succ])
            with_reducible refine wl_on (v := .pointer (some (ad.add (i.toNat * 2)))) (W1 := w3) (by kernel_rfl) (by go_simp) ?_; (try simp only [Act.put, List.setIfInBounds_toArray, List.set_cons_zero, List.set_cons_succ])
            with_reducible refine wl_on (v := .int .i64 2) (W1 := w3) (by kernel_rfl) (by go_simp) ?_; (try simp only [Act.put, List.setIfInBounds_toArray, List.set_cons_zero, List.set_cons_succ])
            with_reducible refine wl_on (v := .bool false) (W1 := w3) (by kernel_rfl) (by go_simp) ?_; (try simp only [Act.put, List.setIfInBounds_toArray, List.set_cons_zero, List.set_cons_succ])
            with_reducible refine wl_on (v := .bool false) (W1 := w3) (by kernel_rfl) (by kernel_rfl) ?_; (try simp only [Act.put, List.setIfInBounds_toArray, List.set_cons_zero, List.set_cons_succ])
            with_reducible refine wl_off (by kernel_rfl) ?_; (try simp only [Act.put, List.setIfInBounds_toArray, List.set_cons_zero, List.set_cons_succ])
            with_reducible refine wl_off (by kernel_rfl) ?_; (try simp only [Act.put, List.setIfInBounds_toArray, List.set_cons_zero, List.set_cons_succ])
            with_reducible refine wl_off (by kernel_rfl) ?_; (try simp only [Act.put, List.setIfInBounds_toArray, List.set_cons_zero, List.set_cons_succ])
            with_reducible refine wl_off (by kernel_rfl) ?_; (try simp only [Act.put, List.setIfInBounds_toArray, List.set_cons_zero, List.set_cons_succ])
            with_reducible refine wl_off (by kernel_rfl) ?_; (try simp only [Act.put, List.setIfInBounds_toArray, List.set_cons_zero, List.set_cons_succ])
            with_reducible refine wl_off (by kernel_rfl) ?_; (try simp only [Act.put, List.setIfInBounds_toArray, List.set_cons_zero, List.set_cons_succ])
            with_reducible refine wl_off (by kernel_rfl) ?_; (try simp only [Act.put, List.setIfInBounds_toArray, List.set_cons_zero, List.set_cons_succ])
            with_reducible refine wl_off (by kernel_rfl) ?_; (try simp only [Act.put, List.setIfInBounds_toArray, List.set_cons_zero, List.set_cons_succ])
            with_reducible refine wl_off (by kernel_rfl) ?_; (try simp only [Act.put, List.setIfInBounds_toArray, List.set_cons_zero, List.set_cons_succ])
            with_reducible refine wl_off (by kernel_rfl) ?_; (try simp only [Act.put, List.setIfInBounds_toArray, List.set_cons_zero, List.set_cons_succ])
            with_reducible refine wl_off (by kernel_rfl) ?_; (try simp only [Act.put, List.setIfInBounds_toArray, List.set_cons_zero, List.set_cons_succ])
            with_reducible refine wl_off (by kernel_rfl) ?_; (try simp only [Act.put, List.setIfInBounds_toArray, List.set_cons_zero, List.set_cons_succ])
            with_reducible refine wl_off (by kernel_rfl) ?_; (try simp only [Act.put, List.setIfInBounds_toArray, List.set_cons_zero, List.set_cons_succ])
            with_reducible refine wl_off (by kernel_rfl) ?_; (try simp only [Act.put, List.setIfInBounds_toArray, List.set_cons_zero, List.set_cons_succ])
            with_reducible refine wl_off (by kernel_rfl) ?_; (try simp only [Act.put, List.setIfInBounds_toArray, List.set_cons_zero, List.set_cons_succ])
            with_reducible refine wl_off (by kernel_rfl) ?_; (try simp only [Act.put, List.setIfInBounds_toArray, List.set_cons_zero, List.set_cons_succ])
            with_reducible refine wl_off (by kernel_rfl) ?_; (try simp only [Act.put, List.setIfInBounds_toArray, List.set_cons_zero, List.set_cons_succ])
            with_reducible refine wl_off (by kernel_rfl) ?_; (try simp only [Act.put, List.setIfInBounds_toArray, List.set_cons_zero, List.set_cons_succ])
            with_reducible refine wl_on (v := .bool false) (W1 := w3) (by kernel_rfl) (by kernel_rfl) ?_; (try simp only [Act.put, List.setIfInBounds_toArray, List.set_cons_zero, List.set_cons_succ])
            with_reducible refine wl_on (v := .bool false) (W1 := w3) (by kernel_rfl) (by kernel_rfl) ?_; (try simp only [Act.put, List.setIfInBounds_toArray, List.set_cons_zero, List.set_cons_succ])
            with_reducible refine wl_on (v := .bool false) (W1 := w3) (by kernel_rfl) (by kernel_rfl) ?_; (try simp only [Act.put, List.setIfInBounds_toArray, List.set_cons_zero, List.set_cons_succ])
            with_reducible refine wl_on (v := .slice (some ad) l.length c0) (W1 := w3) (by kernel_rfl) (by kernel_rfl) ?_; (try simp only [Act.put, List.setIfInBounds_toArray, List.set_cons_zero, List.set_cons_succ])
            with_reducible refine wl_on (v := .int .i64 i) (W1 := w3) (by kernel_rfl) (by kernel_rfl) ?_; (try simp only [Act.put, List.setIfInBounds_toArray, List.set_cons_zero, List.set_cons_succ])
            with_reducible refine wl_on (v := .pointer (some (ad.add (i.toNat * 2)))) (W1 := w3) (by kernel_rfl) (by go_simp) ?_; (try simp only [Act.put, List.setIfInBounds_toArray, List.set_cons_zero, List.set_cons_succ])
            with_reducible refine wl_on (v := .pointer (some (ad.add (i.toNat * 2)))) (W1 := w3) (by kernel_rfl) (by go_simp) ?_; (try simp only [Act.put, List.setIfInBounds_toArray, List.set_cons_zero, List.set_cons_succ])
            with_reducible refine wl_on (v := .int .i64 2) (W1 := w3) (by kernel_rfl) (by go_simp) ?_; (try simp only [Act.put, List.setIfInBounds_toArray, List.set_cons_zero, List.set_cons_succ])
            with_reducible refine wl_on (v := .bool true) (W1 := w3) (by kernel_rfl) (by go_simp) ?_; (try simp only [Act.put, List.setIfInBounds_toArray, List.set_cons_zero, List.set_cons_succ])
            with_reducible refine wl_on (v := .bool true) (W1 := w3) (by kernel_rfl) (by kernel_rfl) ?_; (try simp only [Act.put, List.setIfInBounds_toArray, List.set_cons_zero, List.set_cons_succ])
            with_reducible refine wl_on (v := .pointer (some ⟨g6, 4, none⟩)) (W1 := w3) (by kernel_rfl) (by go_simp) ?_; (try simp only [Act.put, List.setIfInBounds_toArray, List.set_cons_zero, List.set_cons_succ])
            with_reducible refine wl_on (v := .int .i64 2) (W1 := w3) (by kernel_rfl) (by go_simp) ?_; (try simp only [Act.put, List.setIfInBounds_toArray, List.set_cons_zero, List.set_cons_succ])
            with_reducible refine wl_on (v := .bool false) (W1 := w3) (by kernel_rfl) (by go_simp) ?_; (try simp only [Act.put, List.setIfInBounds_toArray, List.set_cons_zero, List.set_cons_succ])
            with_reducible refine wl_on (v := .bool false) (W1 := w3) (by kernel_rfl) (by kernel_rfl) ?_; (try simp only [Act.put, List.setIfInBounds_toArray, List.set_cons_zero, List.set_cons_succ])
            with_reducible refine wl_on (v := .bool false) (W1 := w3) (by kernel_rfl) (by kernel_rfl) ?_; (try simp only [Act.put, List.setIfInBounds_toArray, List.set_cons_zero, List.set_cons_succ])
            refine wpList_nil ?_
            have q0 := (blk_cell K2.out 0).trans rfl
            have q1 := (blk_cell K2.out 1).trans rfl
            have q2 := (blk_cell K2.out 2).trans rfl
            have q3 := (blk_cell K2.out 3).trans rfl
            have s0 := (blk_cell K6.out 0).trans rfl
            have s1 := (blk_cell K6.out 1).trans rfl
            have s2 := (blk_cell K6.out 2).trans rfl
            have s3 := (blk_cell K6.out 3).trans rfl
            have s6 := (blk_cell K6.out 6).trans rfl
            have s7 := (blk_cell K6.out 7).trans rfl
            simp only [List.getElem?_toArray, List.getElem?_cons_zero, List.getElem?_cons_succ] at q0 q1 q2 q3 s0 s1 s2 s3 s6 s7
            have z0 := blk_frozen K2.out 0
            have z1 := blk_frozen K2.out 1
            have z2 := blk_frozen K2.out 2
            have z3 := blk_frozen K2.out 3
            have z4 := blk_frozen K2.out 4
            have z5 := blk_frozen K2.out 5
            have z6 := blk_frozen K2.out 6
            have z7 := blk_frozen K2.out 7
            go_wp2
            go_roundg (gk - 1)
            case measure => have := HL.out; have := HI.out; have := HG.out; omega
            case rel => exact ⟨i + 1, ⟨y0, y1, y2, y3, 2, y5, y6, y7⟩, (by first | rfl | (simp; done) | (have := HL.out; have := HI.out; have := HN.out; congr 1; unfold wrap64; omega)), by have := HI.out; omega, by have := HL.out; have := HI.out; have := HG.out; omega, HS, K2p, ⟨(by have HU_ := HB5.out; repeat (with_reducible first | exact HU_ | refine Up.set ?_ (by omega) | apply Up.alloc | apply Up.drewN | apply Up.drew))⟩⟩
          have hk0n := bne_iff_ne.mpr hk0; replace hk0 := beq_eq_false_iff_ne.mpr hk0; have hk1n := bne_iff_ne.mpr hk1; replace hk1 := beq_eq_false_iff_ne.mpr hk1; have hk2n := bne_iff_ne.mpr hk2; replace hk2 := beq_eq_false_iff_ne.mpr hk2
          have hgg := HG2.out
          have K2p := Aside0.mk (blkput_8 (b0 := .int .i64 y0) (b1 := .int .i64 y1) (b2 := .int .i64 y2) (b3 := .int .i64 y3) (b4 := .int .i64 y4) (b5 := .int .i64 y5) (b6 := .int .i64 y6) (b7 := .int .i64 y7) K2.out)
          clear q0 q1 q2 q3 s0 s1 s2 s3 s6 s7 z0 z1 z2 z3 z4 z5 z6 z7 p1
          go_upto_region 16 with (fail)
          refine wp_region_lit ?_
          simp only [List.append_eq, List.cons_append, List.nil_append]
          with_reducible refine wl_on (v := .slice (some ad) l.length c0) (W1 := w3) (by kernel_rfl) (by kernel_rfl) ?_; (try simp only [Act.put, List.setIfInBounds_toArray, List.set_cons_zero, List.set_cons_succ])
          with_reducible refine wl_on (v := .int .i64 i) (W1 := w3) (by kernel_rfl) (by kernel_rfl) ?_; (try simp only [Act.put, List.setIfInBounds_toArray, List.set_cons_zero, List.set_cons_succ])
          with_reducible refine wl_on (v := .pointer (some (ad.add (i.toNat * 2)))) (W1 := w3) (by kernel_rfl) (by go_simp) ?_; (try simp only [Act.put, List.setIfInBounds_toArray, List.set_cons_zero, List.set_cons_succ])
          with_reducible refine wl_on (v := .pointer (some (ad.add (i.toNat * 2)))) (W1 := w3) (by kernel_rfl) (by go_simp) ?_; (try simp only [Act.put, List.setIfInBounds_toArray, List.set_cons_zero, List.set_cons_succ])
          with_reducible refine wl_on (v := .int .i64 k) (W1 := w3) (by kernel_rfl) (by go_simp) ?_; (try simp only [Act.put, List.setIfInBounds_toArray, List.set_cons_zero, List.set_cons_succ])
          with_reducible refine wl_on (v := .bool false) (W1 := w3) (by kernel_rfl) (by go_simp) ?_; (try simp only [Act.put, List.setIfInBounds_toArray, List.set_cons_zero, List.set_cons_succ])
          with_reducible refine wl_on (v := .bool false) (W1 := w3) (by kernel_rfl) (by kernel_rfl) ?_; (try simp only [Act.put, List.setIfInBounds_toArray, List.set_cons_zero, List.set_cons_succ])
          with_reducible refine wl_off (by kernel_rfl) ?_; (try simp only [Act.put, List.setIfInBounds_toArray, List.set_cons_zero, List.set_cons_succ])
          with_reducible refine wl_off (by kernel_rfl) ?_; (try simp only [Act.put, List.setIfInBounds_toArray, List.set_cons_zero, List.set_cons_succ])
          with_reducible refine wl_off (by kernel_rfl) ?_; (try simp only [Act.put, List.setIfInBounds_toArray, List.set_cons_zero, List.set_cons_succ])
          with_reducible refine wl_off (by kernel_rfl) ?_; (try simp only [Act.put, List.setIfInBounds_toArray, List.set_cons_zero, List.set_cons_succ])
          with_reducible refine wl_off (by kernel_rfl) ?_; (try simp only [Act.put, List.setIfInBounds_toArray, List.set_cons_zero, List.set_cons_succ])
          with_reducible refine wl_off (by kernel_rfl) ?_; (try simp only [Act.put, List.setIfInBounds_toArray, List.set_cons_zero, List.set_cons_succ])
          with_reducible refine wl_off (by kernel_rfl) ?_; (try simp only [Act.put, List.setIfInBounds_toArray, List.set_cons_zero, List.set_cons_succ])
          with_reducible refine wl_off (by kernel_rfl) ?_; (try simp only [Act.put, List.setIfInBounds_toArray, List.set_cons_zero, List.set_cons_succ])
          with_reducible refine wl_off (by kernel_rfl) ?_; (try simp only [Act.put, List.setIfInBounds_toArray, List.set_cons_zero, List.set_cons_succ])
          with_reducible refine wl_off (by kernel_rfl) ?_; (try simp only [Act.put, List.setIfInBounds_toArray, List.set_cons_zero, List.set_cons_succ])
          with_reducible refine wl_off (by kernel_rfl) ?_; (try simp only [Act.put, List.setIfInBounds_toArray, List.set_cons_zero, List.set_cons_succ])
          with_reducible refine wl_off (by kernel_rfl) ?_; (try simp only [Act.put, List.setIfInBounds_toArray, List.set_cons_zero, List.set_cons_succ])
          with_reducible refine wl_off (by kernel_rfl) ?_; (try simp only [Act.put, List.setIfInBounds_toArray, List.set_cons_zero, List.set_cons_succ])
          with_reducible refine wl_off (by kernel_rfl) ?_; (try simp only [Act.put, List.setIfInBounds_toArray, List.set_cons_zero, List.set_cons_succ])
          with_reducible refine wl_off (by kernel_rfl) ?_; (try simp only [Act.put, List.setIfInBounds_toArray, List.set_cons_zero, List.set_cons_succ])
          with_reducible refine wl_off (by kernel_rfl) ?_; (try simp only [Act.put, List.setIfInBounds_toArray, List.set_cons_zero, List.set_cons_succ])
          with_reducible refine wl_off (by kernel_rfl) ?_; (try simp only [Act.put, List.setIfInBounds_toArray, List.set_cons_zero, List.set_cons_succ])
          with_reducible refine wl_off (by kernel_rfl) ?_; (try simp only [Act.put, List.setIfInBounds_toArray, List.set_cons_zero, List.set_cons_succ])
          with_reducible refine wl_on (v := .bool false) (W1 := w3) (by kernel_rfl) (by kernel_rfl) ?_; (try simp only [Act.put, List.setIfInBounds_toArray, List.set_cons_zero, List.set_cons_succ])
          with_reducible refine wl_on (v := .bool false) (W1 := w3) (by kernel_rfl) (by kernel_rfl) ?_; (try simp only [Act.put, List.setIfInBounds_toArray, List.set_cons_zero, List.set_cons_succ])
          with_reducible refine wl_on (v := .slice (some ad) l.length c0) (W1 := w3) (by kernel_rfl) (by kernel_rfl) ?_; (try simp only [Act.put, List.setIfInBounds_toArray, List.set_cons_zero, List.set_cons_succ])
          with_reducible refine wl_on (v := .int .i64 i) (W1 := w3) (by kernel_rfl) (by kernel_rfl) ?_; (try simp only [Act.put, List.setIfInBounds_toArray, List.set_cons_zero, List.set_cons_succ])
          with_reducible refine wl_on (v := .pointer (some (ad.add (i.toNat * 2)))) (W1 := w3) (by kernel_rfl) (by go_simp) ?_; (try simp only [Act.put, List.setIfInBounds_toArray, List.set_cons_zero, List.set_cons_succ])
          with_reducible refine wl_on (v := .pointer (some (ad.add (i.toNat * 2)))) (W1 := w3) (by kernel_rfl) (by go_simp) ?_; (try simp only [Act.put, List.setIfInBounds_toArray, List.set_cons_zero, List.set_cons_succ])
          with_reducible refine wl_on (v := .int .i64 k) (W1 := w3) (by kernel_rfl) (by go_simp) ?_; (try simp only [Act.put, List.setIfInBounds_toArray, List.set_cons_zero, List.set_cons_succ])
          with_reducible refine wl_on (v := .bool false) (W1 := w3) (by kernel_rfl) (by go_simp) ?_; (try simp only [Act.put, List.setIfInBounds_toArray, List.set_cons_zero, List.set_cons_succ])
          with_reducible refine wl_on (v := .bool false) (W1 := w3) (by kernel_rfl) (by kernel_rfl) ?_; (try simp only [Act.put, List.setIfInBounds_toArray, List.set_cons_zero, List.set_cons_succ])
          with_reducible refine wl_off (by kernel_rfl) ?_; (try simp only [Act.put, List.setIfInBounds_toArray, List.set_cons_zero, List.set_cons_succ])
          with_reducible refine wl_off (by kernel_rfl) ?_; (try simp only [Act.put, List.setIfInBounds_toArray, List.set_cons_zero, List.set_cons_succ])
          with_reducible refine wl_off (by kernel_rfl) ?_; (try simp only [Act.put, List.setIfInBounds_toArray, List.set_cons_zero, List.set_cons_succ])
          with_reducible refine wl_off (by kernel_rfl) ?_; (try simp only [Act.put, List.setIfInBounds_toArray, List.set_cons_zero, List.set_cons_succ])
          with_reducible refine wl_off (by kernel_rfl) ?_; (try simp only [Act.put, List.setIfInBounds_toArray, List.set_cons_zero, List.set_cons_succ])
          with_reducible refine wl_off (by kernel_rfl) ?_; (try simp only [Act.put, List.setIfInBounds_toArray, List.set_cons_zero, List.set_cons_succ])
          with_reducible refine wl_off (by kernel_rfl) ?_; (try simp only [Act.put, List.setIfInBounds_toArray, List.set_cons_zero, List.set_cons_succ])
          with_reducible refine wl_off (by kernel_rfl) ?_; (try simp only [Act.put, List.setIfInBounds_toArray, List.set_cons_zero, List.set_cons_succ])
          with_reducible refine wl_off (by kernel_rfl) ?_; (try simp only [Act.put, List.setIfInBounds_toArray, List.set_cons_zero, List.set_cons_succ])
          with_reducible refine wl_off (by kernel_rfl) ?_; (try simp only [Act.put, List.setIfInBounds_toArray, List.set_cons_zero, List.set_cons_succ])
          with_reducible refine wl_off (by kernel_rfl) ?_; (try simp only [Act.put, List.setIfInBounds_toArray, List.set_cons_zero, List.set_cons_succ])
          with_reducible refine wl_off (by kernel_rfl) ?_; (try simp only [Act.put, List.setIfInBounds_toArray, List.set_cons_zero, List.set_cons_succ])
          with_reducible refine wl_off (by kernel_rfl) ?_; (try simp only [Act.put, List.setIfInBounds_toArray, List.set_cons_zero, List.set_cons_succ])
          with_reducible refine wl_off (by kernel_rfl) ?_; (try simp only [Act.put, List.setIfInBounds_toArray, List.set_cons_zero, List.set_cons_succ])
          with_reducible refine wl_off (by kernel_rfl) ?_; (try simp only [Act.put, List.setIfInBounds_toArray, List.set_cons_zero, List.set_cons_succ])
          with_reducible refine wl_off (by kernel_rfl) ?_; (try simp only [Act.put, List.setIfInBounds_toArray, List.set_cons_zero, List.set_cons_succ])
          with_reducible refine wl_off (by kernel_rfl) ?_; (try simp only [Act.put, List.setIfInBounds_toArray, List.set_cons_zero, List.set_cons_succ])
          with_reducible refine wl_off (by kernel_rfl) ?_; (try simp only [Act.put, List.setIfInBounds_toArray, List.set_cons_zero, List.set_cons_succ])
          with_reducible refine wl_on (v := .bool false) (W1 := w3) (by kernel_rfl) (by kernel_rfl) ?_; (try simp only [Act.put, List.setIfInBounds_toArray, List.set_cons_zero, List.set_cons_succ])
          with_reducible refine wl_on (v := .bool false) (W1 := w3) (by kernel_rfl) (by kernel_rfl) ?_; (try simp only [Act.put, List.setIfInBounds_toArray, List.set_cons_zero, List.set_cons_succ])
          with_reducible refine wl_on (v := .bool false) (W1 := w3) (by kernel_rfl) (by kernel_rfl) ?_; (try simp only [Act.put, List.setIfInBounds_toArray, List.set_cons_zero, List.set_cons_succ])
          with_reducible refine wl_on (v := .slice (some ad) l.length c0) (W1 := w3) (by kernel_rfl) (by kernel_rfl) ?_; (try simp only [Act.put, List.setIfInBounds_toArray, List.set_cons_zero, List.set_cons_succ])
          with_reducible refine wl_on (v := .int .i64 i) (W1 := w3) (by kernel_rfl) (by kernel_rfl) ?_; (try simp only [Act.put, List.setIfInBounds_toArray, List.set_cons_zero, List.set_cons_succ])
          with_reducible refine wl_on (v := .pointer (some (ad.add (i.toNat * 2)))) (W1 := w3) (by kernel_rfl) (by go_simp) ?_; (try simp only [Act.put, List.setIfInBounds_toArray, List.set_cons_zero, List.set_cons_succ])
          with_reducible refine wl_on (v := .pointer (some (ad.add (i.toNat * 2)))) (W1 := w3) (by kernel_rfl) (by go_simp) ?_; (try simp only [Act.put, List.setIfInBounds_toArray, List.set_cons_zero, List.set_cons_succ])
          with_reducible refine wl_on (v := .int .i64 k) (W1 := w3) (by kernel_rfl) (by go_simp) ?_; (try simp only [Act.put, List.setIfInBounds_toArray, List.set_cons_zero, List.set_cons_succ])
          with_reducible refine wl_on (v := .bool false) (W1 := w3) (by kernel_rfl) (by go_simp) ?_; (try simp only [Act.put, List.setIfInBounds_toArray, List.set_cons_zero, List.set_cons_succ])
          with_reducible refine wl_on (v := .bool false) (W1 := w3) (by kernel_rfl) (by kernel_rfl) ?_; (try simp only [Act.put, List.setIfInBounds_toArray, List.set_cons_zero, List.set_cons_succ])
          with_reducible refine wl_off (by kernel_rfl) ?_; (try simp only [Act.put, List.setIfInBounds_toArray, List.set_cons_zero, List.set_cons_succ])
          with_reducible refine wl_off (by kernel_rfl) ?_; (try simp only [Act.put, List.setIfInBounds_toArray, List.set_cons_zero, List.set_cons_succ])
          with_reducible refine wl_off (by kernel_rfl) ?_; (try simp only [Act.put, List.setIfInBounds_toArray, List.set_cons_zero, List.set_cons_succ])
          with_reducible refine wl_on (v := .bool false) (W1 := w3) (by kernel_rfl) (by kernel_rfl) ?_; (try simp only [Act.put, List.setIfInBounds_toArray, List.set_cons_zero, List.set_cons_succ])
          with_reducible refine wl_on (v := .bool false) (W1 := w3) (by kernel_rfl) (by kernel_rfl) ?_; (try simp only [Act.put, List.setIfInBounds_toArray, List.set_cons_zero, List.set_cons_succ])
          refine wpList_nil ?_
          have q0 := (blk_cell K2.out 0).trans rfl
          have q1 := (blk_cell K2.out 1).trans rfl
          have q2 := (blk_cell K2.out 2).trans rfl
          have q3 := (blk_cell K2.out 3).trans rfl
          have s0 := (blk_cell K6.out 0).trans rfl
          have s1 := (blk_cell K6.out 1).trans rfl
          have s2 := (blk_cell K6.out 2).trans rfl
          have s3 := (blk_cell K6.out 3).trans rfl
          have s6 := (blk_cell K6.out 6).trans rfl
          have s7 := (blk_cell K6.out 7).trans rfl
          simp only [List.getElem?_toArray, List.getElem?_cons_zero, List.getElem?_cons_succ] at q0 q1 q2 q3 s0 s1 s2 s3 s6 s7
          have z0 := blk_frozen K2.out 0
          have z1 := blk_frozen K2.out 1
          have z2 := blk_frozen K2.out 2
          have z3 := blk_frozen K2.out 3
          have z4 := blk_frozen K2.out 4
          have z5 := blk_frozen K2.out 5
          have z6 := blk_frozen K2.out 6
          have z7 := blk_frozen K2.out 7
          go_wp2
          go_roundg (gk - 1)
          case measure => have := HL.out; have := HI.out; have := HG.out; omega
          case rel => exact ⟨i + 1, ⟨y0, y1, y2, y3, y4, y5, y6, y7⟩, (by first | rfl | (simp; done) | (have := HL.out; have := HI.out; have := HN.out; congr 1; unfold wrap64; omega)), by have := HI.out; omega, by have := HL.out; have := HI.out; have := HG.out; omega, HS, K2p, ⟨(by have HU_ := HB5.out; repeat (with_reducible first | exact HU_ | refine Up.set ?_ (by omega) | apply Up.alloc | apply Up.drewN | apply Up.drew))⟩⟩

end Go.Proofs.Ytahcalhpigmbgaa.H
