import Derived.Test.YtahcalhpigmbgaaHK
import Derived.Test.YtahcalhpigmbgaaHRr
namespace Go.Proofs.Ytahcalhpigmbgaa.H
open Go.RowKit Go.Proofs.YtahcalhpigmbgaaW.PrintWords Go.Proofs.YtahcalhpigmbgaaW.PrintLast Go.Proofs.YtahcalhpigmbgaaW.PrintMore
set_option linter.unusedVariables false
set_option linter.unusedSimpArgs false
/-! gun.draws: what the guns that are on draw, with whatever flow -/
def kindK (ks : List SGunKind) (id : Int) : SGunKind := if kindX ks id < 0 then zGunKind else rd_GunKind ks (kindX ks id)
def drawsF (fl : Int → Int) (l : List SGun) : Nat → Int → List SDraw
  | 0, _ => []
  | d + 1, i => if (rd_Gun l i).f4 = 1 then ⟨(rd_Gun l i).f1, fl i⟩ :: drawsF fl l d (i + 1) else drawsF fl l d (i + 1)
theorem drawsF_step {fl : Int → Int} {l : List SGun} {n : Nat} {i : Int} (h0 : 0 ≤ i) (h : i < n) : drawsF fl l (n - i.toNat) i = if (rd_Gun l i).f4 = 1 then ⟨(rd_Gun l i).f1, fl i⟩ :: drawsF fl l (n - (i + 1).toNat) (i + 1) else drawsF fl l (n - (i + 1).toNat) (i + 1) := by
  rw [show n - i.toNat = (n - (i + 1).toNat) + 1 by omega]; rfl
theorem drawsF_end {fl : Int → Int} {l : List SGun} {n : Nat} {i : Int} (h : n ≤ i) : drawsF fl l (n - i.toNat) i = [] := by
  rw [show n - i.toNat = 0 by omega]; rfl
theorem infoDraw : (Try.prog.info? 53).map (fun i => (i.zero, i.size, i.bytes)) = some (some (.agg #[(.int .i64 0), (.int .i64 0)]), 2, 16) := by kernel_rfl
theorem kind_any (A0 : Option Addr) (c0 : Nat) (ks : List SGunKind) (A1 : Int → Option Addr) (C1 : Int → Nat) (id : Int) (K : SGunKind) (w : World) (h : kindK ks id = K) (hr0 : RdGK w A0 ks A1 C1) :
    Calls Try.prog 36 #[.slice A0 ks.length c0, .int .i64 id] w fun e w' => ∃ A c ok, e = .returned (.tuple #[.agg #[.int .i64 K.f0, .slice A K.f1.length c, .int .i64 K.f2, .int .i64 K.f3], .bool ok]) ∧ Kd.C kPoint w A K.f1.length K.f1 ∧ Up w w' := by
  subst h
  rcases kindX_cases ks id with hx | hx
  · rw [show kindK ks id = zGunKind by simp [kindK, hx]]
    exact (kind_no A0 c0 ks A1 C1 id w hx hr0).mono fun e w' ⟨he, hu⟩ => ⟨none, 0, false, he, Kd.C_nil _ _, hu⟩
  · rw [show kindK ks id = rd_GunKind ks (kindX ks id) by simp only [kindK]; rw [if_neg (by omega)]]
    exact (kind_yes A0 c0 ks A1 C1 id _ w rfl hx hr0).mono fun e w' ⟨he, hu⟩ => ⟨_, _, true, he, hr0.nest hx (kindX_lt rfl hx).1, hu⟩
theorem find_any (A0 : Option Addr) (c0 : Nat) (ks : List SGunKind) (A1 : Int → Option Addr) (C1 : Int → Nat) (id : Int) (K : SGunKind) (w : World) (h : kindK ks id = K) (hr0 : RdGK w A0 ks A1 C1) :
    Calls Try.prog 43 #[.slice A0 ks.length c0, .int .i64 id] w fun e w' => ∃ A c ok, e = .returned (.tuple #[.agg #[.int .i64 K.f0, .slice A K.f1.length c, .int .i64 K.f2, .int .i64 K.f3], .bool ok]) ∧ Kd.C kPoint w A K.f1.length K.f1 ∧ Up w w' := by
  subst h
  rcases kindX_cases ks id with hx | hx
  · rw [show kindK ks id = zGunKind by simp [kindK, hx]]
    exact (find_no A0 c0 ks A1 C1 id w hx hr0).mono fun e w' ⟨he, hu⟩ => ⟨none, 0, false, he, Kd.C_nil _ _, hu⟩
  · rw [show kindK ks id = rd_GunKind ks (kindX ks id) by simp only [kindK]; rw [if_neg (by omega)]]
    exact (find_yes A0 c0 ks A1 C1 id _ w rfl hx hr0).mono fun e w' ⟨he, hu⟩ => ⟨_, _, true, he, hr0.nest hx (kindX_lt rfl hx).1, hu⟩
set_option maxHeartbeats 8000000 in
set_option maxRecDepth 100000 in
theorem draws_c (g : Nat) (lb : Array Value) (fl : SGunKind → Int) (A0 : Option Addr) (c0 : Nat) (ks : List SGunKind) (A1 : Int → Option Addr) (C1 : Int → Nat) (B0 : Option Addr) (d0 : Nat) (l : List SGun) (w : World) (R : List SDraw)
    (h : drawsF (fun i => fl (kindK ks (rd_Gun l i).f3)) l (l.length - (0 : Int).toNat) 0 = R) (hn : l.length ≤ 1000) (hr0 : RdGK w A0 ks A1 C1) (hr1 : Kd.C kGun w B0 l.length l)
    (eg : ∀ args w, (callFunc g args).run Try.prog w = .ok (.enter g args) w)
    (hp : ∀ (W : World) (k : SGunKind) (A : Option Addr) (c : Nat), Up w W → Kd.C kPoint W A k.f1.length k.f1 → Calls Try.prog g (#[.agg #[.int .i64 k.f0, .slice A k.f1.length c, .int .i64 k.f2, .int .i64 k.f3]] ++ lb) W fun e w' => e = .returned (.int .i64 (fl k)) ∧ Up W w') :
    Calls Try.prog 48 #[.slice A0 ks.length c0, .slice B0 l.length d0, .func (.func g) #[] lb] w fun e w' => ∃ v, e = .returned v ∧ Kd.R kDraw 53 w' w.heap.size (fun _ => True) v R ∧ Up w w' := by
  have hu := Try.underlying39
  have hu2 := Try.underlying31
  have hu3 := Try.underlying53
  have HB := Up.refl w
  have HS := Aside0.mk (show ([] : List SDraw) ++ drawsF (fun i => fl (kindK ks (rd_Gun l i).f3)) l (l.length - (0 : Int).toNat) 0 = R from h)
  have HN := Aside0.mk hn
  have HR0 := Aside0.mk hr0
  have HR1 := Aside0.mk hr1
  have HP := Aside0.mk hp
  clear h hn hr0 hr1 hp
  go_enter Try.func48, Try.ntmps48
  go_wp2
  go_loopg [7, 14] (l.length) (fun gk v7 v14 w' => ∃ (i : Int) (xs : List SDraw), v14 = .int .i64 i ∧ 0 ≤ i ∧ l.length - i.toNat ≤ gk ∧ xs.length ≤ i.toNat ∧ Aside0 (xs ++ drawsF (fun i => fl (kindK ks (rd_Gun l i).f3)) l (l.length - i.toNat) i = R) ∧ Aside0 (Kd.R kDraw 53 w' w.heap.size (fun _ => True) v7 xs) ∧ Up w w')
  case atStart => exact ⟨0, [], rfl, by omega, by omega, by simp, HS, ⟨Kd.R_nil _ _ _ _ _⟩, HB⟩
  case round =>
    clear HS HB
    obtain ⟨i, xs, rfl, hi, hg, hxs, HS, HO, HB⟩ := hrel
    have HI := Aside0.mk hi
    have HX := Aside0.mk hxs
    clear hxs
    by_cases hlt : i < l.length
    · have HL := Aside0.mk hlt
      obtain ⟨bd, rfl⟩ : ∃ ad, B0 = some ad := by obtain ⟨ad, c, e, _⟩ := Kd.C_get HR1.out zGun i hi hlt; exact ⟨ad, e⟩
      obtain ⟨hx0, hx1, hx2, hx3, hx4, hx5, hx6, hx7⟩ := rx_Gun HR1.out
      have hlt2 := decide_eq_true hlt
      have HF := Aside0.mk (drawsF_step (fl := fun i => fl (kindK ks (rd_Gun l i).f3)) (l := l) hi hlt)
      replace hi := eq_true hi; replace hlt := eq_true hlt
      by_cases t1 : (rd_Gun l i).f4 = 1
      · have HF := Aside0.mk (HF.out.trans (if_pos t1))
        obtain ⟨K, hK⟩ : ∃ K, kindK ks (rd_Gun l i).f3 = K := ⟨_, rfl⟩
        have HK := Aside0.mk hK
        clear hK
        have t1n := bne_eq_false_iff_eq.mpr t1; replace t1 := beq_iff_eq.mpr t1
        go_wp2_with fail
        (with_reducible refine (kind_any _ _ _ A1 C1 _ K _ HK.out (HR0.out.up (by repeat (with_reducible first | exact HB | apply Up.alloc | apply Up.drewN | apply Up.drew)))).mono ?_)
        rintro e w1 ⟨A, c, ok, rfl, hC, hb⟩
        go_upto_region 7 with (fail)
        obtain ⟨W2, hW⟩ : ∃ W, W = w1.alloc (.cells #[.int .i64 K.f0, .slice A K.f1.length c, .int .i64 K.f2, .int .i64 K.f3] 39) := ⟨_, rfl⟩
        rw [← hW]
        have hk1 : W2.heap[wr.heap.size]? = some (.cells #[.int .i64 (rd_Gun l i).f0, .int .i64 (rd_Gun l i).f1, .int .i64 (rd_Gun l i).f2, .int .i64 (rd_Gun l i).f3, .int .i64 (rd_Gun l i).f4, .int .i64 (rd_Gun l i).f5, .int .i64 (rd_Gun l i).f6, .int .i64 (rd_Gun l i).f7] 31 (0, 0)) := by rw [hW]; exact blk_alloc (Up.blk hb (blk_new wr _)) _
        have hk2 : W2.heap[w1.heap.size]? = some (.cells #[.int .i64 K.f0, .slice A K.f1.length c, .int .i64 K.f2, .int .i64 K.f3] 39 (0, 0)) := by rw [hW]; exact blk_new w1 _
        have hU1 : Up w1 W2 := by rw [hW]; exact (Up.refl w1).alloc _
        have HU := Aside0.mk (show Up w W2 from Up.step (Up.step (HB.alloc _) hb) hU1)
        have HC := Aside0.mk (C_up (C_up hC hb) hU1)
        have HO := Aside0.mk (show Kd.R kDraw 53 W2 w.heap.size (fun _ => True) u7 xs from by rw [hW]; exact Kd.R_alloc (Kd.R_below (Kd.R_alloc HO.out _) hb) _)
        have qn : W2.cell? ⟨wr.heap.size, 1, none⟩ = some (.int .i64 (rd_Gun l i).f1) := (blk_cell hk1 1).trans rfl
        have QN := Aside0.mk (show ∀ W, Up W2 W → W.cell? ⟨wr.heap.size, 1, none⟩ = some (.int .i64 (rd_Gun l i).f1) from fun W u => (blk_cell (Up.blk u hk1) 1).trans rfl)
        have k0 : W2.cell? ⟨w1.heap.size, 0, none⟩ = some (.int .i64 K.f0) := (blk_cell hk2 0).trans rfl
        have k1 : W2.cell? ⟨w1.heap.size, 1, none⟩ = some (.slice A K.f1.length c) := (blk_cell hk2 1).trans rfl
        have k2 : W2.cell? ⟨w1.heap.size, 2, none⟩ = some (.int .i64 K.f2) := (blk_cell hk2 2).trans rfl
        have k3 : W2.cell? ⟨w1.heap.size, 3, none⟩ = some (.int .i64 K.f3) := (blk_cell hk2 3).trans rfl
        clear hW hk1 hk2 hU1 hb hC HB hx0 hx1 hx2 hx3 hx4 hx5 hx6 hx7
        have HUd := Aside0.mk (Up.step HU.out (Up.drew (Up.refl W2)))
        have HCd := Aside0.mk (C_up HC.out (Up.drew (Up.refl W2)))
        generalize wr.heap.size = G1 at QN qn k0 k1 k2 k3 ⊢
        generalize w1.heap.size = G2 at QN qn k0 k1 k2 k3 ⊢
        go_region_law (first | (refine Kd.R_append_step kDraw (w0 := w) w.heap.size rfl (.tmp 28) (.tmp 35) 41 53 _ 16 rfl Try.underlying41 infoDraw rfl (by decide) (by decide) _ xs (⟨(rd_Gun l i).f1, fl K⟩ : SDraw) [.int .i64 (rd_Gun l i).f1, .int .i64 (fl K)] (fun _ => True) (fun _ => False) (by simp [Act.eval, Act.put]) (by simp [Act.eval, Act.put]) (kDraw_mkM _ _ _ _) (fun _ h => h.elim) (fun _ _ => trivial) HO3.out HU3.out HU3.out.size (by have := HX.out; have := HL.out; have := HN.out; omega) ?_; intro v1 w4 hR1 hB1 hg1 hat1) | (go_simp; (refine (HP.out _ K A c HUd.out HCd.out).mono ?_); rintro e w3 ⟨rfl, hb3⟩; have qn3 := QN.out w3 (Up.step (Up.drew (Up.refl W2)) hb3); have HU3 := Aside0.mk (Up.step (Up.step HU.out (Up.drew (Up.refl W2))) hb3); have HO3 := Aside0.mk (Kd.R_below (Kd.R_drew HO.out) hb3)))
        all_goals
          have HO4 := Aside0.mk hR1
          have HU4 := Aside0.mk (show Up w w4 from hB1)
          clear hR1 hB1 hg1 hat1 QN qn qn3 k0 k1 k2 k3
          go_wp2
          go_roundg (gk - 1)
          case measure => have := HL.out; have := HI.out; omega
          case rel => exact ⟨i + 1, xs ++ [⟨(rd_Gun l i).f1, fl K⟩], (by first | rfl | (simp; done) | (have := HL.out; have := HI.out; have := HN.out; congr 1; unfold wrap64; omega)), by have := HI.out; omega, by have := HL.out; have := HI.out; omega, by have := HX.out; have := HI.out; simp; omega, ⟨by have h := HS.out; rw [HF.out, HK.out] at h; rw [List.append_assoc]; exact h⟩, HO4, HU4.out⟩
      · have HF := Aside0.mk (HF.out.trans (if_neg t1))
        have t1n := bne_iff_ne.mpr t1; replace t1 := beq_eq_false_iff_ne.mpr t1
        go_wp2
        go_roundg (gk - 1)
        case measure => have := HL.out; have := HI.out; omega
        case rel => exact ⟨i + 1, xs, (by first | rfl | (simp; done) | (have := HL.out; have := HI.out; have := HN.out; congr 1; unfold wrap64; omega)), by have := HI.out; omega, by have := HL.out; have := HI.out; omega, by have := HX.out; have := HI.out; omega, ⟨by rw [← HF.out]; exact HS.out⟩, ⟨Kd.R_alloc HO.out _⟩, (by repeat (with_reducible first | exact HB | apply Up.alloc | apply Up.drewN | apply Up.drew))⟩
    · have HS := Aside0.mk (show xs = R by have h := HS.out; rw [drawsF_end (by omega), List.append_nil] at h; exact h)
      replace hlt := decide_eq_false hlt
      go_wp2
      go_ret
      exact ⟨_, rfl, by rw [← HS.out]; exact HO.out, HB⟩

end Go.Proofs.Ytahcalhpigmbgaa.H
