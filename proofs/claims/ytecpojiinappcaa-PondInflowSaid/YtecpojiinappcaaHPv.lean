import Derived.Test.YtecpojiinappcaaHK
import Derived.Test.YtecpojiinappcaaHPi
namespace Go.Proofs.Ytecpojiinappcaa.H
open Go.RowKit Go.Proofs.YtecpojiinappcaaW.PrintWords Go.Proofs.YtecpojiinappcaaW.PrintLast Go.Proofs.YtecpojiinappcaaW.PrintMore
set_option linter.unusedVariables false
set_option linter.unusedSimpArgs false
/-! the reference's Split -/
theorem goS_step {x : Int} {q r : List Int} (h : sumI q < x) : goS (x - sumI q).toNat q r = goS ((x - sumI q).toNat - 1) (q.set (bestTo (rd_Int r) r.length).toNat (rd_Int q (bestTo (rd_Int r) r.length) + 1)) (r.set (bestTo (rd_Int r) r.length).toNat (-1)) := by
  rw [show (x - sumI q).toNat = ((x - sumI q).toNat - 1) + 1 by omega]; rfl
theorem sumR_n (n : Nat) (A0 : Option Addr) (c0 : Nat) (l : List Int) (w : World) (r : Int) (hn : l.length = n) (h : sumI l = r) (hok : okB l) (hr0 : Kd.C (Kd.int .i64) w A0 n l) :
    Calls Try.prog 31 #[.slice A0 n c0] w fun e w' => e = .returned (.int .i64 r) ∧ Up w w' := by
  subst hn; exact sumR_c A0 c0 l w r h hok hr0
theorem sum_n (n : Nat) (A0 : Option Addr) (c0 : Nat) (l : List Int) (w : World) (r : Int) (hn : l.length = n) (h : sumI l = r) (hok : okB l) (hr0 : Kd.C (Kd.int .i64) w A0 n l) :
    Calls Try.prog 36 #[.slice A0 n c0] w fun e w' => e = .returned (.int .i64 r) ∧ Up w w' := by
  subst hn; exact sum_c A0 c0 l w r h hok hr0
theorem RI_C {W : World} {base n c : Nat} {A : Option Addr} {xs : List Int} (h : RI W base (.slice A n c) xs) : Kd.C (Kd.int .i64) W A n xs := by
  obtain ⟨e, _, h⟩ := Kd.R_reads' h
  rw [e]; exact h
theorem RI_rd {W : World} {base g n cap : Nat} {xs : List Int} (h : RI W base (.slice (some ⟨g, 0, none⟩) n cap) xs) : ∀ (X : World) (i : Int), Up W X → 0 ≤ i → i < n → X.cell? ⟨g, i.toNat, none⟩ = some (.int .i64 (rd_Int xs i)) :=
  fun _ _ u h0 h1 => (RI_cell (Kd.R_below h u) h0 h1).1
theorem okB_of {q : List Int} {x : Int} (hn : q.length ≤ 8) (h0 : ∀ i : Int, 0 ≤ i → i < q.length → 0 ≤ rd_Int q i) (hs : sumI q ≤ x) (hx : x ≤ 8000000000) : okB q :=
  ⟨by omega, fun i a b => ⟨h0 i a b, by have := sumTo_elem (f := rd_Int q) a b h0; unfold sumI at hs; omega⟩⟩
theorem quo_nonneg {x : Int} {l : List Int} (hok : okW l) (hx : 0 ≤ x) : ∀ i : Int, 0 ≤ i → i < (quoL x l).length → 0 ≤ rd_Int (quoL x l) i := fun i a b => by
  rw [show (quoL x l).length = l.length from genL_len _ _] at b
  rw [quoL, rdI_gen a b]; exact Int.ediv_nonneg (Int.mul_nonneg hx (hok.2 i a b).1) (okW_sum hok).1
theorem sumI_inc {q : List Int} {b : Int} (h0 : 0 ≤ b) (h1 : b < q.length) : sumI (q.set b.toNat (rd_Int q b + 1)) = sumI q + 1 := by
  unfold sumI
  rw [List.length_set, sumTo_one (f := rd_Int q) (x := rd_Int q b + 1) h0 h1 (fun i a c => by rw [rdI_set h0 h1 a])]; omega
set_option maxHeartbeats 16000000 in
theorem SplitR_c (A0 : Option Addr) (c0 : Nat) (l : List Int) (x : Int) (w : World) (hok : okW l) (hx : 0 < x) (hxs : x ≤ sumI l) (hr0 : Kd.C (Kd.int .i64) w A0 l.length l) :
    Calls Try.prog 29 #[.int .i64 x, .slice A0 l.length c0] w fun e w' => ∃ v, e = .returned (.tuple #[v, .int .i64 0]) ∧ RI w' w.heap.size v (splitL x l) ∧ Up w w' := by
  have HB := Up.refl w
  have HR := Aside0.mk hr0
  have HK := Aside0.mk hok
  have hsm := okW_sum hok
  obtain ⟨s, hs⟩ : ∃ s, sumI l = s := ⟨_, rfl⟩
  have HSM := Aside0.mk hs
  have HXS := Aside0.mk (show 0 < x ∧ x ≤ s ∧ s ≤ 8000000000 by omega)
  have hn8 := hok.1
  have t1 := decide_eq_false (show ¬ (64 : Int) < (l.length : Int) by omega)
  have t2 := decide_eq_false (show ¬ x < 0 by omega)
  have t3 := decide_eq_false (show ¬ (1099511627776 : Int) < x by omega)
  have t4 : (s == 0) = false := beq_eq_false_iff_ne.mpr (by omega)
  clear hok hx hxs hs hsm hn8
  go_enter Try.func29, Try.ntmps29
  go_wp2
  go_loopg [6] (l.length) (fun gk v6 w' => ∃ i : Int, v6 = .int .i64 i ∧ 0 ≤ i ∧ l.length - i.toNat ≤ gk ∧ Up w w')
  case atStart => exact ⟨0, rfl, by omega, by omega, HB⟩
  case round =>
    clear HB
    obtain ⟨i, rfl, hi, hg, HB⟩ := hrel
    have HI := Aside0.mk hi
    by_cases hlt : i < l.length
    · have HL := Aside0.mk hlt
      obtain ⟨ad, rfl⟩ : ∃ ad, A0 = some ad := by obtain ⟨ad, c, e, _⟩ := Kd.C_get HR.out 0 i hi hlt; exact ⟨ad, e⟩
      have p0 := rx_Int HR.out _ i HB hi hlt
      have hb := HK.out.2 i hi hlt
      obtain ⟨y, hy⟩ : ∃ y, rd_Int l i = y := ⟨_, rfl⟩
      rw [hy] at p0 hb
      have u1 := decide_eq_false (show ¬ y < 0 by omega)
      have u2 := decide_eq_false (show ¬ 1000000000 < y by omega)
      have hlt2 := decide_eq_true hlt
      clear hb hy
      replace hi := eq_true hi; replace hlt := eq_true hlt
      go_wp2
      go_roundg (gk - 1)
      case measure => have := HL.out; have := HI.out; omega
      case rel => exact ⟨i + 1, (by first | rfl | (simp; done) | (have := HL.out; have := HI.out; have := HK.out.1; congr 1; unfold wrap64; omega)), by have := HI.out; omega, by have := HL.out; have := HI.out; omega, HB⟩
    · replace hlt := decide_eq_false hlt
      clear hg hi HI
      go_wp2_with fail
      (with_reducible refine (sumR_c A0 c0 l _ s HSM.out HK.out.B (C_up HR.out HB)).mono ?_)
      rintro e w1 ⟨rfl, hb⟩
      have HU1 := Aside0.mk (Up.step HB hb)
      clear hb HB
      have HR := Aside0.mk (C_up HR.out HU1.out)
      have HB := Up.refl w1
      have hz0 := HU1.out.size
      go_wp2
      go_loopg [8, 9, 10, 11, 12] (l.length) (fun gk v8 v9 v10 _ _ w' => ∃ i : Int, v10 = .int .i64 i ∧ 0 ≤ i ∧ i ≤ l.length ∧ l.length - i.toNat ≤ gk ∧ Aside0 (RI w' w.heap.size v8 (genL (fun i => x * rd_Int l i / s) i.toNat)) ∧ Aside0 (RI w' w.heap.size v9 (genL (fun i => x * rd_Int l i % s) i.toNat)) ∧ Aside0 (apart v8 v9) ∧ Aside0 (Up w w'))
      case atStart => exact ⟨0, rfl, by omega, by omega, by omega, ⟨Kd.R_nil _ _ _ _ _⟩, ⟨Kd.R_nil _ _ _ _ _⟩, ⟨fun k hk => by simp [Value.ownBlock] at hk⟩, HU1⟩
      case round =>
        clear HB HU1
        obtain ⟨i, rfl, hi, hil, hg, HA, HO, HP, HB⟩ := hrel
        have HI := Aside0.mk hi
        have HIL := Aside0.mk hil
        have HG := Aside0.mk hg
        clear hil hg hz0
        by_cases hlt : i < l.length
        · have HL := Aside0.mk hlt
          obtain ⟨ad, rfl⟩ : ∃ ad, A0 = some ad := by obtain ⟨ad, c, e, _⟩ := Kd.C_get HR.out 0 i hi hlt; exact ⟨ad, e⟩
          have HR := Aside0.mk (C_up (HR.out) (Up.refl w1))
          have p0 := rx_Int hr0 _ i HB.out hi hlt
          have hb := HK.out.2 i hi hlt
          obtain ⟨y, hy⟩ : ∃ y, rd_Int l i = y := ⟨_, rfl⟩
          have HY := Aside0.mk hy
          rw [hy] at p0 hb
          have HYB := Aside0.mk hb
          have hys : y ≤ s := by rw [← HSM.out, ← hy]; exact sumTo_elem (f := rd_Int l) hi hlt (fun k a b => (HK.out.2 k a b).1)
          have HYS := Aside0.mk hys
          obtain ⟨Q, hQ⟩ : ∃ z, x * y / s = z := ⟨_, rfl⟩
          obtain ⟨T, hT⟩ : ∃ z, x * y % s = z := ⟨_, rfl⟩
          have C := Quotient_c x y s (by have := HXS.out; omega) (by have := HXS.out; omega) (by omega) (by omega) (by have := HXS.out; omega) (by have := HXS.out; omega) hys wr
          rw [hQ, hT] at C
          have HC := Aside0.mk C
          have HQ := Aside0.mk hQ
          have HT := Aside0.mk hT
          have hlt2 := decide_eq_true hlt
          clear hb hy hys C hQ hT
          replace hi := eq_true hi; replace hlt := eq_true hlt
          go_wp2_with fail
          (with_reducible refine HC.out.mono ?_)
          rintro e w2 ⟨rfl, hb⟩
          have HA := Aside0.mk (Kd.R_below HA.out hb)
          have HO := Aside0.mk (Kd.R_below HO.out hb)
          have HB2 := Aside0.mk (Up.step HB.out hb)
          clear hb HB HC
          go_wp2_with (first | ((with_reducible refine gate_dst (N := 65) rfl ?_); refine Kd.R_append (Kd.int .i64) (w0 := w) w.heap.size rfl (.tmp 62) (.tmp 64) 40 3 _ 8 rfl Try.underlying40 infoInt rfl (by decide) (by decide) _ (genL (fun i => x * rd_Int l i / s) i.toNat) Q [.int .i64 Q] (fun _ => True) (fun _ => False) rfl (by simp [Act.eval]) rfl (fun _ h => h.elim) (fun _ _ => trivial) HA.out ?aB ?aS ?aL ?_; (case aB => exact HB2.out); (case aS => exact HB2.out.size); (case aL => have := HK.out.1; have := HL.out; simp [genL_len]; omega); intro va w3 ho hb hg hat; obtain ⟨ho2, hap⟩ := apart_grow HP.out HO.out hg hat; have HA3 := Aside0.mk ho; have HO3 := Aside0.mk ho2; have HP3 := Aside0.mk hap; have HB3 := Aside0.mk (show Up w w3 from hb); clear ho ho2 hap hb hg hat) | ((with_reducible refine gate_dst (N := 69) rfl ?_); refine Kd.R_append (Kd.int .i64) (w0 := w) w.heap.size rfl (.tmp 66) (.tmp 68) 40 3 _ 8 rfl Try.underlying40 infoInt rfl (by decide) (by decide) _ (genL (fun i => x * rd_Int l i % s) i.toNat) T [.int .i64 T] (fun _ => True) (fun _ => False) rfl (by simp [Act.eval]) rfl (fun _ h => h.elim) (fun _ _ => trivial) HO3.out ?aB ?aS ?aL ?_; (case aB => exact HB3.out); (case aS => exact HB3.out.size); (case aL => have := HK.out.1; have := HL.out; simp [genL_len]; omega); intro vb w4 ho hb hg hat; obtain ⟨ho2, hap⟩ := apart_grow HP3.out.symm HA3.out hg hat; have HO := Aside0.mk ho; have HA := Aside0.mk ho2; have HP := Aside0.mk hap.symm; have HB4 := Aside0.mk (show Up w w4 from hb); clear ho ho2 hap hb hg hat))
          go_wp2
          go_roundg (gk - 1)
          case measure => have := HL.out; have := HI.out; have := HG.out; omega
          case rel => exact ⟨i + 1, (by first | rfl | (simp; done) | (have := HL.out; have := HI.out; have := HK.out.1; congr 1; unfold wrap64; omega)), by have := HI.out; omega, by have := HL.out; omega, by have := HL.out; have := HI.out; have := HG.out; omega, ⟨by rw [genL_step HI.out]; (try dsimp only); rw [HY.out, HQ.out]; exact HA.out⟩, ⟨by rw [genL_step HI.out]; (try dsimp only); rw [HY.out, HT.out]; exact HO.out⟩, HP, HB4⟩
        · have HGE := Aside0.mk hlt
          replace hlt := decide_eq_false hlt
          have hnl : 0 < l.length := by
            by_cases e : l.length = 0
            · have h := HSM.out; unfold sumI at h; rw [e] at h; have := HXS.out; simp [sumTo] at h; omega
            · omega
          have eA : genL (fun i => x * rd_Int l i / s) i.toNat = quoL x l := by rw [genL_end (n := l.length) hi (by have := HIL.out; have := HGE.out; omega), ← HSM.out]; rfl
          have eO : genL (fun i => x * rd_Int l i % s) i.toNat = remL x l := by rw [genL_end (n := l.length) hi (by have := HIL.out; have := HGE.out; omega), ← HSM.out]; rfl
          have hA := HA.out
          have hO := HO.out
          have hP := HP.out
          rw [eA] at hA
          rw [eO] at hO
          obtain ⟨k0, k1⟩ := split_k HK.out (x := x) (by have := HXS.out; omega) (by have := HXS.out; have := HSM.out; omega)
          have hq0 := quo_nonneg HK.out (x := x) (by have := HXS.out; omega)
          have HF := Aside0.mk (show goS (x - sumI (quoL x l)).toNat (quoL x l) (remL x l) = splitL x l from rfl)
          have hql : (quoL x l).length = l.length := genL_len _ _
          have hrl : (remL x l).length = l.length := genL_len _ _
          generalize quoL x l = q0 at hA HF hq0 hql k0
          generalize remL x l = r0 at hO HF hrl
          obtain ⟨g8, c8, rfl, b8⟩ := RI_form hA (by omega)
          obtain ⟨g9, c9, rfl, b9⟩ := RI_form hO (by omega)
          have hgg : g8 ≠ g9 := fun e => hP g8 rfl (by simp [Value.ownBlock, e])
          rw [hql] at hA
          rw [hrl] at hO
          rw [hql, hrl]
          have HA := Aside0.mk hA
          have HO := Aside0.mk hO
          have HG := Aside0.mk (And.intro b8 b9)
          have HN := Aside0.mk hnl
          obtain ⟨n, hn⟩ : ∃ n, l.length = n := ⟨_, rfl⟩
          have HNL := Aside0.mk hn
          have HN8 := Aside0.mk (show n ≤ 8 by have := HK.out.1; omega)
          rw [hn] at HA HO HN hql hrl hlt ⊢
          have hks : 0 ≤ x - sumI q0 := k0
          clear hA hO hP eA eO k0 k1 b8 b9 hnl hn hi HI HIL t1 t2 t3 t4 HP
          go_wp2
          go_loopg [13, 14] ((x - sumI q0).toNat) (fun gk _ _ w' => ∃ (q r : List Int), (x - sumI q).toNat ≤ gk ∧ Aside0 (q.length = n ∧ r.length = n ∧ (∀ i : Int, 0 ≤ i → i < q.length → 0 ≤ rd_Int q i) ∧ sumI q ≤ x) ∧ Aside0 (goS (x - sumI q).toNat q r = splitL x l) ∧ Aside0 (RI w' w.heap.size (.slice (some ⟨g8, 0, none⟩) n c8) q) ∧ Aside0 (RI w' w.heap.size (.slice (some ⟨g9, 0, none⟩) n c9) r) ∧ Aside0 (Up w w'))
          case atStart => exact ⟨q0, r0, by omega, ⟨hql, hrl, hq0, by omega⟩, HF, HA, HO, HB⟩
          case round =>
            clear HA HO HB HF hql hrl hq0 hks
            obtain ⟨q, r, hg, HQ, HF, HA, HO, HB⟩ := hrel
            have HGK := Aside0.mk hg
            obtain ⟨sq, hsq⟩ : ∃ z, sumI q = z := ⟨_, rfl⟩
            have HSQ := Aside0.mk hsq
            clear hg hsq
            go_wp2_with fail
            (with_reducible refine (sumR_n n _ c8 q _ sq HQ.out.1 HSQ.out (okB_of (by rw [HQ.out.1]; exact HN8.out) HQ.out.2.2.1 HQ.out.2.2.2 (by have := HXS.out; omega)) (RI_C HA.out)).mono ?_)
            rintro e w5 ⟨rfl, hb⟩
            have HA := Aside0.mk (Kd.R_below HA.out hb)
            have HO := Aside0.mk (Kd.R_below HO.out hb)
            have HB5 := Aside0.mk (Up.step HB.out hb)
            clear hb HB
            by_cases hlt : sq < x
            · have HL := Aside0.mk hlt
              replace hlt := decide_eq_true hlt
              obtain ⟨b, hbst⟩ : ∃ b, bestTo (rd_Int r) n = b := ⟨_, rfl⟩
              have HBST := Aside0.mk hbst
              have hx9 := RI_rd HO.out
              have HB := Up.refl w5
              obtain ⟨ga, rfl⟩ : ∃ z : Nat, z = gk := ⟨_, rfl⟩
              clear hbst
              go_wp2
              go_loopg [13, 14] n (fun gk v13 v14 w' => ∃ (j m : Int), v13 = .int .i64 m ∧ v14 = .int .i64 j ∧ 1 ≤ j ∧ j ≤ n ∧ n - j.toNat ≤ gk ∧ Aside0 (bestTo (rd_Int r) j.toNat = m) ∧ Up w5 w')
              case atStart => exact ⟨1, 0, rfl, rfl, by omega, by have := HN.out; omega, by omega, ⟨by show bestTo (rd_Int r) 1 = 0; simp [bestTo]⟩, HB⟩
              case round =>
                clear HB
                obtain ⟨j, m, rfl, rfl, hj, hjn, hg, HM, HB⟩ := hrel
                have HJ := Aside0.mk hj
                have HJN := Aside0.mk hjn
                by_cases hlt : j < n
                · have HL2 := Aside0.mk hlt
                  have hm := best_rng (r := rd_Int r) (n := j.toNat) (by omega)
                  rw [HM.out] at hm
                  obtain ⟨m0, m1⟩ := hm
                  have m2 : m < n := by omega
                  have j0 : 0 ≤ j := by omega
                  have p0 := hx9 _ j HB j0 hlt
                  have p1 := hx9 _ m HB m0 m2
                  have pd0 := hx9 _ j HB.drew j0 hlt
                  have pd1 := hx9 _ m HB.drew m0 m2
                  obtain ⟨y, hy⟩ : ∃ z, rd_Int r j = z := ⟨_, rfl⟩
                  obtain ⟨z, hz⟩ : ∃ z, rd_Int r m = z := ⟨_, rfl⟩
                  have HS := Aside0.mk (show bestTo (rd_Int r) (j + 1).toNat = if z < y then j else m by rw [show (j + 1).toNat = j.toNat + 1 by omega, bestTo, HM.out, hz, Int.toNat_of_nonneg j0, hy])
                  rw [hy] at p0 pd0
                  rw [hz] at p1 pd1
                  have hlt2 := decide_eq_true hlt
                  clear hx9 hy hz m1 hj hjn
                  replace j0 := eq_true j0; replace hlt := eq_true hlt; replace m0 := eq_true m0; replace m2 := eq_true m2
                  by_cases u : z < y
                  · have HS := Aside0.mk (HS.out.trans (if_pos u))
                    replace u := decide_eq_true u
                    go_wp2; go_quiet (fail); go_wp2
                    go_roundg (gk - 1)
                    case measure => have := HL2.out; have := HJ.out; omega
                    case rel => exact ⟨j + 1, j, (by first | rfl | (congr 1; done)), (by first | rfl | (simp; done) | (have := HL2.out; have := HJ.out; have := HN8.out; congr 1; unfold wrap64; omega)), by have := HJ.out; omega, by have := HL2.out; omega, by have := HL2.out; have := HJ.out; omega, HS, (by repeat (with_reducible first | exact HB | apply Up.alloc | apply Up.drewN | apply Up.drew))⟩
                  · have HS := Aside0.mk (HS.out.trans (if_neg u))
                    replace u := decide_eq_false u
                    go_wp2; go_quiet (fail); go_wp2
                    go_roundg (gk - 1)
                    case measure => have := HL2.out; have := HJ.out; omega
                    case rel => exact ⟨j + 1, m, (by first | rfl | (congr 1; done)), (by first | rfl | (simp; done) | (have := HL2.out; have := HJ.out; have := HN8.out; congr 1; unfold wrap64; omega)), by have := HJ.out; omega, by have := HL2.out; omega, by have := HL2.out; have := HJ.out; omega, HS, (by repeat (with_reducible first | exact HB | apply Up.alloc | apply Up.drewN | apply Up.drew))⟩
                · obtain rfl : m = b := by rw [← HM.out, ← HBST.out, show j.toNat = n by omega]
                  have hm := best_rng (r := rd_Int r) (n := n) HN.out
                  rw [HBST.out] at hm
                  obtain ⟨m0, m2⟩ := hm
                  have HA := Aside0.mk (Kd.R_below HA.out HB)
                  have HO := Aside0.mk (Kd.R_below HO.out HB)
                  have HB6 := Aside0.mk (Up.step HB5.out HB)
                  have HM0 := Aside0.mk (And.intro m0 m2)
                  obtain ⟨p1, f1⟩ := RI_cell HA.out m0 m2
                  obtain ⟨z, hz⟩ : ∃ z, rd_Int q m = z := ⟨_, rfl⟩
                  have HZ := Aside0.mk hz
                  rw [hz] at p1
                  have hzb := sumTo_elem (f := rd_Int q) m0 (by rw [HQ.out.1]; exact m2) HQ.out.2.2.1
                  have hz0 := HQ.out.2.2.1 m m0 (by rw [HQ.out.1]; exact m2)
                  rw [hz] at hzb hz0
                  have hw1 : wrap64 (z + 1) = z + 1 := by have h1 := HSQ.out; have h2 := HL.out; have h3 := HXS.out; unfold sumI at h1; unfold wrap64; omega
                  have HA7 := RI_set HA.out m (z + 1)
                  have HO7 := RI_far HO.out rfl hgg m.toNat (.int .i64 (z + 1))
                  obtain ⟨p2, f2⟩ := RI_cell HO7 m0 m2
                  have HA8 := Aside0.mk (RI_far HA7 rfl hgg.symm m.toNat (.int .i64 (-1)))
                  have HO8 := Aside0.mk (RI_set HO7 m (-1))
                  clear hz hzb hz0 HA7 HO7 HB hx9 hj hjn
                  replace m0 := eq_true m0; replace m2 := eq_true m2
                  replace hlt := decide_eq_false hlt
                  go_wp2
                  have hb8 := HG.out.1
                  have hb9 := HG.out.2
                  go_roundg (ga - 1)
                  case measure => have := HGK.out; have := HSQ.out; have := HL.out; omega
                  case rel =>
                    have hmq : m < q.length := by have := HQ.out.1; have := HM0.out.2; omega
                    have hinc := sumI_inc HM0.out.1 hmq
                    refine ⟨q.set m.toNat (z + 1), r.set m.toNat (-1), ?_, ⟨by rw [List.length_set]; exact HQ.out.1, by rw [List.length_set]; exact HQ.out.2.1, fun i a c => ?_, ?_⟩, ⟨?_⟩, HA8, HO8, ⟨(by have HU_ := HB6.out; repeat (with_reducible first | exact HU_ | refine Up.set ?_ (by omega) | apply Up.alloc | apply Up.drewN | apply Up.drew))⟩⟩
                    · rw [← HZ.out, hinc]; have := HGK.out; have := HSQ.out; have := HL.out; omega
                    · rw [List.length_set] at c
                      rw [rdI_set HM0.out.1 hmq a]
                      have := HQ.out.2.2.1 m HM0.out.1 hmq
                      rw [HZ.out] at this
                      split
                      · omega
                      · exact HQ.out.2.2.1 i a c
                    · rw [← HZ.out, hinc]; have := HSQ.out; have := HL.out; omega
                    · have e := goS_step (x := x) (q := q) (r := r) (by have := HSQ.out; have := HL.out; omega)
                      rw [HQ.out.2.1, HBST.out, HZ.out] at e
                      have hs2 : sumI (q.set m.toNat (z + 1)) = sumI q + 1 := by rw [← HZ.out]; exact hinc
                      rw [← HF.out, e, hs2, show (x - (sumI q + 1)).toNat = (x - sumI q).toNat - 1 by have := HSQ.out; have := HL.out; omega]
            · have HE := Aside0.mk (show q = splitL x l by have h := HF.out; have := HSQ.out; rwa [show (x - sumI q).toNat = 0 by omega] at h)
              replace hlt := decide_eq_false hlt
              go_wp2
              exact bodyPost_ret (v := .tuple #[.slice (some ⟨g8, 0, none⟩) n c8, .int .i64 0]) (by simp [results, Try.results29, go_sem]) rfl ⟨_, rfl, by rw [← HE.out]; exact HA.out, HB5.out⟩

end Go.Proofs.Ytecpojiinappcaa.H
