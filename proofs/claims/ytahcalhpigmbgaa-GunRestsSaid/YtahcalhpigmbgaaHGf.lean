import Derived.Test.YtahcalhpigmbgaaHK
import Derived.Test.YtahcalhpigmbgaaHGk
namespace Go.Proofs.Ytahcalhpigmbgaa.H
open Go.RowKit Go.Proofs.YtahcalhpigmbgaaW.PrintWords Go.Proofs.YtahcalhpigmbgaaW.PrintLast Go.Proofs.YtahcalhpigmbgaaW.PrintMore
set_option linter.unusedVariables false
set_option linter.unusedSimpArgs false
/-! gun.kind, skiarearef42.find: the first kind with an ID -/
theorem kindX_lt {l : List SGunKind} {id j : Int} (h : kindX l id = j) (h0 : 0 ≤ j) : j < l.length ∧ (rd_GunKind l j).f0 = id := by
  rcases idxF_rng _ _ _ h with h | h
  · omega
  · exact ⟨by simp at h; omega, by simpa using h.2.2⟩
set_option maxHeartbeats 4000000 in
theorem kind_no (A0 : Option Addr) (c0 : Nat) (l : List SGunKind) (A1 : Int → Option Addr) (C1 : Int → Nat) (id : Int) (w : World) (h : kindX l id = -1) (hr0 : RdGK w A0 l A1 C1) :
    Calls Try.prog 36 #[.slice A0 l.length c0, .int .i64 id] w fun e w' => e = .returned (.tuple #[.agg #[.int .i64 0, .slice none 0 0, .int .i64 0, .int .i64 0], .bool false]) ∧ Up w w' := by
  have hu := Try.underlying39
  have HB := Up.refl w
  have HR := Aside0.mk hr0
  have HS := Aside0.mk (show idxF (fun i => (rd_GunKind l i).f0 == id) (l.length - (0 : Int).toNat) 0 = _ from h)
  clear hr0 h
  go_enter Try.func36, Try.ntmps36
  go_wp2_with fail
  (with_reducible refine (IndexFunc_GunKind_c 53 w.heap.size (fun i => (rd_GunKind l i).f0 == id) (-1) A0 c0 l A1 C1 _ HS.out (HR.out.up (by repeat (with_reducible first | exact HB | apply Up.alloc | apply Up.drewN | apply Up.drew))) (fun args w => enters_ Try.func53 (by kernel_rfl) rfl args w) (fun W i hu h0 h1 => kindLit_c _ id _ _ _ _ rfl W (by have := hu.size; simp at this; omega) (((Up.cells hu).1 _ 0 (by simp; omega)).trans (by simp)))).mono ?_)
  rintro e w' ⟨rfl, hb⟩
  obtain ⟨hc, hf, hz⟩ := Up.cells hb
  simp at hz
  have hk := Up.blk hb (blk_2 w _ _)
  go_wp2
  exact bodyPost_ret (results_ct rfl _ _ (w.heap.size + 1) 39 #[.int .i64 0, .slice none 0 0, .int .i64 0, .int .i64 0] (0, 0) _ rfl (blkput_4 hk) Try.underlying39 rfl (by kernel_rfl)) rfl ⟨rfl, (by have HU_ := (Up.step (by repeat (with_reducible first | exact HB | apply Up.alloc | apply Up.drewN | apply Up.drew)) hb : Up w w'); repeat (with_reducible first | exact HU_ | refine Up.set ?_ (by omega) | apply Up.alloc | apply Up.drewN | apply Up.drew))⟩
set_option maxHeartbeats 4000000 in
theorem kind_yes (A0 : Option Addr) (c0 : Nat) (l : List SGunKind) (A1 : Int → Option Addr) (C1 : Int → Nat) (id j : Int) (w : World) (h : kindX l id = j) (hj : 0 ≤ j) (hr0 : RdGK w A0 l A1 C1) :
    Calls Try.prog 36 #[.slice A0 l.length c0, .int .i64 id] w fun e w' => e = .returned (.tuple #[.agg #[.int .i64 (rd_GunKind l j).f0, .slice (A1 j) (rd_GunKind l j).f1.length (C1 j), .int .i64 (rd_GunKind l j).f2, .int .i64 (rd_GunKind l j).f3], .bool true]) ∧ Up w w' := by
  have hu := Try.underlying39
  have HB := Up.refl w
  have HR := Aside0.mk hr0
  have HS := Aside0.mk (show idxF (fun i => (rd_GunKind l i).f0 == id) (l.length - (0 : Int).toNat) 0 = _ from h)
  have HJ := Aside0.mk hj
  have hlt := (kindX_lt h hj).1
  obtain ⟨ad, rfl⟩ : ∃ ad, A0 = some ad := by
    cases A0 with
    | none => have := hr0.1 rfl; omega
    | some ad => exact ⟨ad, rfl⟩
  obtain ⟨hx0, hx1, hx2, hx3⟩ := hr0.2.2.1 ad rfl
  have hj2 := decide_eq_false (show ¬ j < 0 by omega)
  clear hr0 h
  replace hj := eq_true hj; replace hlt := eq_true hlt
  go_enter Try.func36, Try.ntmps36
  go_wp2_with fail
  (with_reducible refine (IndexFunc_GunKind_c 53 w.heap.size (fun i => (rd_GunKind l i).f0 == id) j (some ad) c0 l A1 C1 _ HS.out (HR.out.up (by repeat (with_reducible first | exact HB | apply Up.alloc | apply Up.drewN | apply Up.drew))) (fun args w => enters_ Try.func53 (by kernel_rfl) rfl args w) (fun W i hu h0 h1 => kindLit_c _ id _ _ _ _ rfl W (by have := hu.size; simp at this; omega) (((Up.cells hu).1 _ 0 (by simp; omega)).trans (by simp)))).mono ?_)
  rintro e w' ⟨rfl, hb⟩
  obtain ⟨hc, hf, hz⟩ := Up.cells hb
  simp at hz
  have hk := Up.blk hb (blk_2 w _ _)
  have HB2 : Up w w' := Up.step (by repeat (with_reducible first | exact HB | apply Up.alloc | apply Up.drewN | apply Up.drew)) hb
  go_wp2
  exact bodyPost_ret (results_ct rfl _ _ (w.heap.size + 1) 39 #[.int .i64 (rd_GunKind l j).f0, .slice (A1 j) (rd_GunKind l j).f1.length (C1 j), .int .i64 (rd_GunKind l j).f2, .int .i64 (rd_GunKind l j).f3] (0, 0) _ rfl (blkput_4 hk) Try.underlying39 rfl (by kernel_rfl)) rfl ⟨rfl, (by have HU_ := HB2; repeat (with_reducible first | exact HU_ | refine Up.set ?_ (by omega) | apply Up.alloc | apply Up.drewN | apply Up.drew))⟩
set_option maxHeartbeats 4000000 in
theorem find_no (A0 : Option Addr) (c0 : Nat) (l : List SGunKind) (A1 : Int → Option Addr) (C1 : Int → Nat) (id : Int) (w : World) (h : kindX l id = -1) (hr0 : RdGK w A0 l A1 C1) :
    Calls Try.prog 43 #[.slice A0 l.length c0, .int .i64 id] w fun e w' => e = .returned (.tuple #[.agg #[.int .i64 0, .slice none 0 0, .int .i64 0, .int .i64 0], .bool false]) ∧ Up w w' := by
  have hu := Try.underlying39
  have HR := Aside0.mk hr0
  have HS := Aside0.mk (show idxF (fun i => (rd_GunKind l i).f0 == id) (l.length - (0 : Int).toNat) 0 = -1 from h)
  clear hr0 h
  have HB := Up.refl (w.alloc (.cells #[.int .i64 0, .slice none 0 0, .int .i64 0, .int .i64 0] 39))
  go_enter Try.func43, Try.ntmps43
  go_wp2
  go_loopg [6] (l.length) (fun gk v6 w' => ∃ i : Int, v6 = .int .i64 i ∧ 0 ≤ i ∧ l.length - i.toNat ≤ gk ∧ Aside0 (idxF (fun i => (rd_GunKind l i).f0 == id) (l.length - i.toNat) i = -1) ∧ Up (w.alloc (.cells #[.int .i64 0, .slice none 0 0, .int .i64 0, .int .i64 0] 39)) w')
  case atStart => exact ⟨0, rfl, by omega, by omega, HS, HB⟩
  case round =>
    clear HS HB
    obtain ⟨i, rfl, hi, hg, HS, HB1⟩ := hrel
    have HI := Aside0.mk hi
    have hz := HB1.size
    simp at hz
    have hk := Up.blk HB1 (blk_new w _)
    have HB : Up w wr := Up.step (by repeat (with_reducible first | exact (Up.refl w) | apply Up.alloc | apply Up.drewN | apply Up.drew)) HB1
    by_cases hlt : i < l.length
    · have HL := Aside0.mk hlt
      have HS := Aside0.mk ((idxF_step hi hlt).symm.trans HS.out)
      obtain ⟨ad, rfl⟩ : ∃ ad, A0 = some ad := by
        cases A0 with
        | none => have := HR.out.1 rfl; omega
        | some ad => exact ⟨ad, rfl⟩
      obtain ⟨hx0, hx1, hx2, hx3⟩ := HR.out.2.2.1 ad rfl
      have hlt2 := decide_eq_true hlt
      replace hi := eq_true hi; replace hlt := eq_true hlt
      by_cases hq : (rd_GunKind l i).f0 = id
      · exfalso
        have h := HS.out
        rw [if_pos (by simpa using hq)] at h
        have := HI.out
        omega
      · have HS := Aside0.mk ((if_neg (by simpa using hq)).symm.trans HS.out)
        have hqn := bne_iff_ne.mpr hq; replace hq := beq_eq_false_iff_ne.mpr hq
        go_wp2
        go_roundg (gk - 1)
        case measure => have := HL.out; have := HI.out; omega
        case rel => exact ⟨i + 1, (by first | rfl | (simp; done) | (have := HL.out; have := HI.out; have := HR.out.2.1; congr 1; unfold wrap64; omega)), by have := HI.out; omega, by have := HL.out; have := HI.out; omega, HS, HB1⟩
    · obtain ⟨hc, hf, _⟩ := Up.cells HB1
      replace hlt := decide_eq_false hlt
      go_wp2
      exact bodyPost_ret (results_ct rfl _ _ (w.heap.size) 39 #[.int .i64 0, .slice none 0 0, .int .i64 0, .int .i64 0] (0, 0) _ rfl (blkput_4 hk) Try.underlying39 rfl (by kernel_rfl)) rfl ⟨rfl, (by have HU_ := HB; repeat (with_reducible first | exact HU_ | refine Up.set ?_ (by omega) | apply Up.alloc | apply Up.drewN | apply Up.drew))⟩
set_option maxHeartbeats 4000000 in
theorem find_yes (A0 : Option Addr) (c0 : Nat) (l : List SGunKind) (A1 : Int → Option Addr) (C1 : Int → Nat) (id j : Int) (w : World) (h : kindX l id = j) (hj : 0 ≤ j) (hr0 : RdGK w A0 l A1 C1) :
    Calls Try.prog 43 #[.slice A0 l.length c0, .int .i64 id] w fun e w' => e = .returned (.tuple #[.agg #[.int .i64 (rd_GunKind l j).f0, .slice (A1 j) (rd_GunKind l j).f1.length (C1 j), .int .i64 (rd_GunKind l j).f2, .int .i64 (rd_GunKind l j).f3], .bool true]) ∧ Up w w' := by
  have hu := Try.underlying39
  have HR := Aside0.mk hr0
  have HJ := Aside0.mk hj
  have HS := Aside0.mk (show idxF (fun i => (rd_GunKind l i).f0 == id) (l.length - (0 : Int).toNat) 0 = j from h)
  have hn := (kindX_lt h hj).1
  obtain ⟨ad, rfl⟩ : ∃ ad, A0 = some ad := by
    cases A0 with
    | none => have := hr0.1 rfl; omega
    | some ad => exact ⟨ad, rfl⟩
  obtain ⟨hx0, hx1, hx2, hx3⟩ := hr0.2.2.1 ad rfl
  clear hr0 h hn hj
  have HB := Up.refl (w.alloc (.cells #[.int .i64 0, .slice none 0 0, .int .i64 0, .int .i64 0] 39))
  go_enter Try.func43, Try.ntmps43
  go_wp2
  go_loopg [6] (l.length) (fun gk v6 w' => ∃ i : Int, v6 = .int .i64 i ∧ 0 ≤ i ∧ l.length - i.toNat ≤ gk ∧ Aside0 (idxF (fun i => (rd_GunKind l i).f0 == id) (l.length - i.toNat) i = j) ∧ Up (w.alloc (.cells #[.int .i64 0, .slice none 0 0, .int .i64 0, .int .i64 0] 39)) w')
  case atStart => exact ⟨0, rfl, by omega, by omega, HS, HB⟩
  case round =>
    clear HS HB
    obtain ⟨i, rfl, hi, hg, HS, HB1⟩ := hrel
    have HI := Aside0.mk hi
    have hz := HB1.size
    simp at hz
    have hk := Up.blk HB1 (blk_new w _)
    have HB : Up w wr := Up.step (by repeat (with_reducible first | exact (Up.refl w) | apply Up.alloc | apply Up.drewN | apply Up.drew)) HB1
    by_cases hlt : i < l.length
    · have HL := Aside0.mk hlt
      have HS := Aside0.mk ((idxF_step hi hlt).symm.trans HS.out)
      have hlt2 := decide_eq_true hlt
      replace hi := eq_true hi; replace hlt := eq_true hlt
      by_cases hq : (rd_GunKind l i).f0 = id
      · obtain rfl : i = j := by have h := HS.out; rwa [if_pos (by simpa using hq)] at h
        have hqn := bne_eq_false_iff_eq.mpr hq; replace hq := beq_iff_eq.mpr hq
        obtain ⟨hc, hf, _⟩ := Up.cells HB1
        go_wp2
        exact bodyPost_ret (results_ct rfl _ _ (w.heap.size) 39 #[.int .i64 (rd_GunKind l i).f0, .slice (A1 i) (rd_GunKind l i).f1.length (C1 i), .int .i64 (rd_GunKind l i).f2, .int .i64 (rd_GunKind l i).f3] (0, 0) _ rfl (blkput_4 hk) Try.underlying39 rfl (by kernel_rfl)) rfl ⟨rfl, (by have HU_ := HB; repeat (with_reducible first | exact HU_ | refine Up.set ?_ (by omega) | apply Up.alloc | apply Up.drewN | apply Up.drew))⟩
      · have HS := Aside0.mk ((if_neg (by simpa using hq)).symm.trans HS.out)
        have hqn := bne_iff_ne.mpr hq; replace hq := beq_eq_false_iff_ne.mpr hq
        go_wp2
        go_roundg (gk - 1)
        case measure => have := HL.out; have := HI.out; omega
        case rel => exact ⟨i + 1, (by first | rfl | (simp; done) | (have := HL.out; have := HI.out; have := HR.out.2.1; congr 1; unfold wrap64; omega)), by have := HI.out; omega, by have := HL.out; have := HI.out; omega, HS, HB1⟩
    · exfalso
      have h := HS.out
      rw [idxF_end (by omega : (l.length : Int) ≤ i)] at h
      have := HJ.out
      omega

end Go.Proofs.Ytahcalhpigmbgaa.H
