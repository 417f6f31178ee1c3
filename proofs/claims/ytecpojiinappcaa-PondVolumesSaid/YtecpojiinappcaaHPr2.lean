import Derived.Test.YtecpojiinappcaaHK
import Derived.Test.YtecpojiinappcaaHPr
namespace Go.Proofs.Ytecpojiinappcaa.H
open Go.RowKit Go.Proofs.YtecpojiinappcaaW.PrintWords Go.Proofs.YtecpojiinappcaaW.PrintLast Go.Proofs.YtecpojiinappcaaW.PrintMore
set_option linter.unusedVariables false
set_option linter.unusedSimpArgs false
/-! skiarearef39.Right -/
theorem idxF_congrP {p q : Int → Bool} : ∀ (d : Nat) (i : Int), (∀ j, i ≤ j → j < i + d → p j = q j) → idxF p d i = idxF q d i := by
  intro d
  induction d with
  | zero => intro i _; rfl
  | succ d ih => intro i h; rw [idxF, idxF, h i (by omega) (by omega), ih (i + 1) (fun j h1 h2 => h j (by omega) (by omega))]
theorem ponX_take {l : List SPond} {id : Int} {m : Nat} (hm : m ≤ l.length) : ponX (l.take m) id = idxF (fun j => (rd_Pond l j).f0 == id) (m - (0 : Int).toNat) 0 := by
  unfold ponX
  rw [show (l.take m).length = m by simp; omega]
  exact idxF_congrP _ _ (fun j a b => by simp only [rdP_take (l := l) (m := m) a (by simpa using b)])
set_option maxHeartbeats 8000000 in
set_option maxRecDepth 100000 in
theorem PonRightR_c (A0 : Option Addr) (c0 : Nat) (l : List SPond) (w : World) (r : Int) (h : ponR l = r) (hr0 : Kd.C kPond w A0 l.length l) :
    Calls Try.prog 11 #[.slice A0 l.length c0] w fun e w' => e = .returned (.int .i64 r) ∧ Up w w' := by
  have hu := Try.underlying38
  have HB := Up.refl w
  by_cases g1 : 8 < l.length
  · obtain rfl : 4 = r := by simpa [ponR, g1] using h
    have g2 := decide_eq_true (show (8 : Int) < (l.length : Int) by omega)
    clear h
    go_enter Try.func11, Try.ntmps11
    go_wp2
    go_ret
    exact ⟨rfl, HB⟩
  have HS := Aside0.mk (show errF (ponE l) (l.length - (0 : Int).toNat) 0 = r by rw [← h]; simp [ponR, g1])
  have g2 := decide_eq_false (show ¬ (8 : Int) < (l.length : Int) by omega)
  have HN := Aside0.mk (show l.length ≤ 8 by omega)
  have HR := Aside0.mk hr0
  clear h hr0 g1
  go_enter Try.func11, Try.ntmps11
  go_wp2
  go_loopg [3] (l.length) (fun gk v3 w' => ∃ i : Int, v3 = .int .i64 i ∧ 0 ≤ i ∧ l.length - i.toNat ≤ gk ∧ Aside0 (errF (ponE l) (l.length - i.toNat) i = r) ∧ Up w w')
  case atStart => exact ⟨0, rfl, by omega, by omega, HS, HB⟩
  case round =>
    clear HS HB
    obtain ⟨i, rfl, hi, hg, HS, HB⟩ := hrel
    have HI := Aside0.mk hi
    have hs0 := HB.size
    by_cases hlt : i < l.length
    · have HS := Aside0.mk ((errF_step hi hlt).symm.trans HS.out)
      have HL := Aside0.mk hlt
      obtain ⟨ad, rfl⟩ : ∃ ad, A0 = some ad := by obtain ⟨ad, c, e, _⟩ := Kd.C_get HR.out zPond i hi hlt; exact ⟨ad, e⟩
      obtain ⟨hx0, hx1, hx2, hx3, hx4⟩ := rx_Pond HR.out
      have hlt2 := decide_eq_true hlt
      replace hi := eq_true hi; replace hlt := eq_true hlt
      by_cases t1 : (rd_Pond l i).f0 < 1
      rotate_left
      by_cases t2 : 9999 < (rd_Pond l i).f0
      rotate_left
      by_cases t3 : (rd_Pond l i).f2 < 0
      rotate_left
      by_cases t4 : (rd_Pond l i).f1 < (rd_Pond l i).f2
      rotate_left
      by_cases t5 : (rd_Pond l i).f3 < (rd_Pond l i).f1
      rotate_left
      by_cases t6 : 1000000000 < (rd_Pond l i).f3
      rotate_left
      by_cases t7 : (rd_Pond l i).f4 < 0
      rotate_left
      by_cases t8 : 10000000 < (rd_Pond l i).f4
      rotate_left
      · have HT := Aside0.mk (show ponB (rd_Pond l i) = false by simp [ponB, *])
        replace t1 := decide_eq_false t1; replace t2 := decide_eq_false t2; replace t3 := decide_eq_false t3; replace t4 := decide_eq_false t4; replace t5 := decide_eq_false t5; replace t6 := decide_eq_false t6; replace t7 := decide_eq_false t7; replace t8 := decide_eq_false t8
        go_upto_region 7 with (fail)
        obtain ⟨W1, hW⟩ : ∃ W, W = wr.alloc (.cells #[.int .i64 (rd_Pond l i).f0, .int .i64 (rd_Pond l i).f1, .int .i64 (rd_Pond l i).f2, .int .i64 (rd_Pond l i).f3, .int .i64 (rd_Pond l i).f4] 38) := ⟨_, rfl⟩
        rw [← hW]
        have hk : W1.heap[wr.heap.size]? = some (.cells #[.int .i64 (rd_Pond l i).f0, .int .i64 (rd_Pond l i).f1, .int .i64 (rd_Pond l i).f2, .int .i64 (rd_Pond l i).f3, .int .i64 (rd_Pond l i).f4] 38 (0, 0)) := by rw [hW]; exact blk_new wr _
        have HUW := Aside0.mk (show Up w W1 by rw [hW]; exact HB.alloc _)
        have q0 : ∀ W, Up W1 W → W.cell? ⟨wr.heap.size, 0, none⟩ = some (.int .i64 (rd_Pond l i).f0) := fun W u => (blk_cell (Up.blk u hk) 0).trans rfl
        have q1 : ∀ W, Up W1 W → W.cell? ⟨wr.heap.size, 1, none⟩ = some (.int .i64 (rd_Pond l i).f1) := fun W u => (blk_cell (Up.blk u hk) 1).trans rfl
        have q2 : ∀ W, Up W1 W → W.cell? ⟨wr.heap.size, 2, none⟩ = some (.int .i64 (rd_Pond l i).f2) := fun W u => (blk_cell (Up.blk u hk) 2).trans rfl
        have q3 : ∀ W, Up W1 W → W.cell? ⟨wr.heap.size, 3, none⟩ = some (.int .i64 (rd_Pond l i).f3) := fun W u => (blk_cell (Up.blk u hk) 3).trans rfl
        have q4 : ∀ W, Up W1 W → W.cell? ⟨wr.heap.size, 4, none⟩ = some (.int .i64 (rd_Pond l i).f4) := fun W u => (blk_cell (Up.blk u hk) 4).trans rfl
        clear hW hk
        have HX := Aside0.mk (ponX_take (l := l) (id := (rd_Pond l i).f0) (m := i.toNat) (by have := HL.out; have := HI.out; omega))
        have HB1 := Up.refl W1
        obtain ⟨ga, rfl⟩ : ∃ x : Nat, x = gk := ⟨_, rfl⟩
        have HG := Aside0.mk hg
        clear HB hg
        generalize wr.heap.size = B at q0 q1 q2 q3 q4 ⊢
        go_wp2
        clear t1 t2 t3 t4 t5 t6 t7 t8 q1 q2 q3 q4
        go_loopg [5] (i.toNat) (fun gk v5 w' => ∃ j : Int, v5 = .int .i64 j ∧ 0 ≤ j ∧ i.toNat - j.toNat ≤ gk ∧ Aside0 (idxF (fun j => (rd_Pond l j).f0 == (rd_Pond l i).f0) (i.toNat - j.toNat) j = ponX (l.take i.toNat) (rd_Pond l i).f0) ∧ Up W1 w')
        case atStart => exact ⟨0, rfl, by omega, by omega, ⟨HX.out.symm⟩, HB1⟩
        case round =>
          clear HB1 HX
          obtain ⟨j, rfl, hj, hg, HX, HB1⟩ := hrel
          have HJ := Aside0.mk hj
          have HB := Up.step HUW.out HB1
          by_cases hlt3 : j < i
          · have HL2 := Aside0.mk hlt3
            have HX := Aside0.mk ((idxF_step (p := fun j => (rd_Pond l j).f0 == (rd_Pond l i).f0) (n := i.toNat) hj (by omega)).symm.trans HX.out)
            have hln : j < l.length := by have := HL.out; omega
            have hlt4 := decide_eq_true hlt3
            replace hj := eq_true hj; replace hlt3 := eq_true hlt3; replace hln := eq_true hln
            by_cases t1 : (rd_Pond l j).f0 = (rd_Pond l i).f0
            · have HO := Aside0.mk (show ponE l i = 7 by have h := HX.out; rw [if_pos (by simpa using t1)] at h; have := HJ.out; simp [ponE, HT.out, ← h]; omega)
              have HS := Aside0.mk (show 7 = r by have h := HS.out; rw [HO.out] at h; simpa using h)
              have t1n := bne_eq_false_iff_eq.mpr t1; replace t1 := beq_iff_eq.mpr t1
              go_wp2; go_quiet (fail); go_wp2
              go_ret
              exact ⟨ret_i HS.out, (by repeat (with_reducible first | exact HB | apply Up.alloc | apply Up.drewN | apply Up.drew))⟩
            · have HX := Aside0.mk ((if_neg (by simpa using t1)).symm.trans HX.out)
              have t1n := bne_iff_ne.mpr t1; replace t1 := beq_eq_false_iff_ne.mpr t1
              go_wp2; go_quiet (fail); go_wp2
              go_roundg (gk - 1)
              case measure => have := HL2.out; have := HJ.out; omega
              case rel => exact ⟨j + 1, (by first | rfl | (simp; done) | (have := HL2.out; have := HL.out; have := HJ.out; have := HN.out; congr 1; unfold wrap64; omega)), by have := HJ.out; omega, by have := HL2.out; have := HJ.out; omega, HX, (by repeat (with_reducible first | exact HB1 | apply Up.alloc | apply Up.drewN | apply Up.drew))⟩
          · have hx : ponX (l.take i.toNat) (rd_Pond l i).f0 = -1 := HX.out.symm.trans (idxF_end (by omega))
            have HO := Aside0.mk (show ponE l i = 0 by simp [ponE, HT.out, hx])
            have HS := Aside0.mk ((if_pos HO.out).symm.trans HS.out)
            clear hx HX
            replace hlt3 := decide_eq_false hlt3
            go_wp2
            go_roundg (ga - 1)
            case measure => have := HG.out; have := HL.out; have := HI.out; omega
            case rel => exact ⟨i + 1, (by first | rfl | (simp; done) | (have := HL.out; have := HI.out; have := HN.out; congr 1; unfold wrap64; omega)), by have := HI.out; omega, by have := HL.out; have := HI.out; have := HG.out; omega, HS, HB⟩
      all_goals
        have HO := Aside0.mk (show ponE l i = 2 by simp [ponE, ponB, *])
        have HS := Aside0.mk (show 2 = r by have h := HS.out; rw [HO.out] at h; simpa using h)
        (first | replace t1 := decide_eq_false t1 | replace t1 := decide_eq_true t1 | skip); (first | replace t2 := decide_eq_false t2 | replace t2 := decide_eq_true t2 | skip); (first | replace t3 := decide_eq_false t3 | replace t3 := decide_eq_true t3 | skip); (first | replace t4 := decide_eq_false t4 | replace t4 := decide_eq_true t4 | skip); (first | replace t5 := decide_eq_false t5 | replace t5 := decide_eq_true t5 | skip); (first | replace t6 := decide_eq_false t6 | replace t6 := decide_eq_true t6 | skip); (first | replace t7 := decide_eq_false t7 | replace t7 := decide_eq_true t7 | skip); (first | replace t8 := decide_eq_false t8 | replace t8 := decide_eq_true t8 | skip)
        go_wp2; repeat (go_quiet (fail); try go_wp2)
        go_ret
        exact ⟨ret_i HS.out, (by repeat (with_reducible first | exact HB | apply Up.alloc | apply Up.drewN | apply Up.drew))⟩
    · have HS := Aside0.mk ((errF_end (by omega : (l.length : Int) ≤ i)).symm.trans HS.out)
      replace hlt := decide_eq_false hlt
      go_wp2
      go_ret
      exact ⟨ret_i HS.out, HB⟩
theorem lawRight_c (A0 : Option Addr) (c0 : Nat) (l : List SPond) (w : World) (b : Bool) (h : (ponR l == 0) = b) (hr0 : Kd.C kPond w A0 l.length l) :
    Calls Try.prog 12 #[.slice A0 l.length c0] w fun e w' => e = .returned (.bool b) ∧ Up w w' := by
  subst h
  have C := PonRightR_c A0 c0 l w _ rfl hr0
  generalize ponR l = r at C ⊢
  have HC := Aside0.mk C
  clear C hr0
  go_enter Try.func12, Try.ntmps12
  go_wp2_with fail
  (with_reducible refine HC.out.mono ?_)
  rintro e w' ⟨rfl, hb⟩
  go_wp2
  go_ret
  exact ⟨rfl, hb⟩

end Go.Proofs.Ytecpojiinappcaa.H
