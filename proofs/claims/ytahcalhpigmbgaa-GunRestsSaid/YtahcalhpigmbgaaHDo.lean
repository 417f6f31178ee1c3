import Derived.Test.YtahcalhpigmbgaaHK
import Derived.Test.YtahcalhpigmbgaaHDr
namespace Go.Proofs.Ytahcalhpigmbgaa.H
open Go.RowKit Go.Proofs.YtahcalhpigmbgaaW.PrintWords Go.Proofs.YtahcalhpigmbgaaW.PrintLast Go.Proofs.YtahcalhpigmbgaaW.PrintMore
set_option linter.unusedVariables false
set_option linter.unusedSimpArgs false
/-! Output, Draws, Needs, Power of the program -/
def outS (k : SGunKind) (wet : Int) : Int := (atE k.f1 wet).1
set_option maxHeartbeats 4000000 in
theorem Output_c (k : SGunKind) (A : Option Addr) (c : Nat) (wet r : Int) (w : World) (h : outS k wet = r) (hC : Kd.C kPoint w A k.f1.length k.f1) :
    Calls Try.prog 23 #[.agg #[.int .i64 k.f0, .slice A k.f1.length c, .int .i64 k.f2, .int .i64 k.f3], .int .i64 wet] w fun e w' => e = .returned (.int .i64 r) ∧ Up w w' := by
  have hu := Try.underlying39
  have HB := Up.refl w
  have HC := Aside0.mk hC
  obtain ⟨e2, he⟩ : ∃ e2, (atE k.f1 wet).2 = e2 := ⟨_, rfl⟩
  have HE := Aside0.mk (show atE k.f1 wet = (r, e2) by rw [← h, ← he]; rfl)
  clear hC h he
  go_enter Try.func23, Try.ntmps23
  go_wp2_with fail
  (with_reducible refine (At_c _ _ _ _ _ _ _ HE.out (C_up HC.out (by repeat (with_reducible first | exact HB | apply Up.alloc | apply Up.drewN | apply Up.drew)))).mono ?_)
  rintro e w1 ⟨rfl, hb⟩
  have HB2 : Up w w1 := Up.step (by repeat (with_reducible first | exact HB | apply Up.alloc | apply Up.drewN | apply Up.drew)) hb
  go_wp2
  go_ret
  exact ⟨rfl, HB2⟩
set_option maxHeartbeats 4000000 in
theorem OutputR_c (k : SGunKind) (A : Option Addr) (c : Nat) (wet r : Int) (w : World) (h : outS k wet = r) (hC : Kd.C kPoint w A k.f1.length k.f1) :
    Calls Try.prog 24 #[.agg #[.int .i64 k.f0, .slice A k.f1.length c, .int .i64 k.f2, .int .i64 k.f3], .int .i64 wet] w fun e w' => e = .returned (.int .i64 r) ∧ Up w w' := by
  have hu := Try.underlying39
  have HB := Up.refl w
  have HC := Aside0.mk hC
  obtain ⟨e2, he⟩ : ∃ e2, (atE k.f1 wet).2 = e2 := ⟨_, rfl⟩
  have HE := Aside0.mk (show atE k.f1 wet = (r, e2) by rw [← h, ← he]; rfl)
  clear hC h he
  go_enter Try.func24, Try.ntmps24
  go_wp2_with fail
  (with_reducible refine (AtR_c _ _ _ _ _ _ _ HE.out (C_up HC.out (by repeat (with_reducible first | exact HB | apply Up.alloc | apply Up.drewN | apply Up.drew)))).mono ?_)
  rintro e w1 ⟨rfl, hb⟩
  have HB2 : Up w w1 := Up.step (by repeat (with_reducible first | exact HB | apply Up.alloc | apply Up.drewN | apply Up.drew)) hb
  go_wp2
  go_ret
  exact ⟨rfl, HB2⟩
set_option maxHeartbeats 4000000 in
theorem DrawsLit_c (B : Nat) (wet : Int) (k : SGunKind) (A : Option Addr) (c : Nat) (w : World) (hb : B < w.heap.size) (hc : w.cell? ⟨B, 0, none⟩ = some (.int .i64 wet)) (hC : Kd.C kPoint w A k.f1.length k.f1) :
    Calls Try.prog 49 (#[.agg #[.int .i64 k.f0, .slice A k.f1.length c, .int .i64 k.f2, .int .i64 k.f3]] ++ #[.pointer (some ⟨B, 0, none⟩)]) w fun e w' => e = .returned (.int .i64 (outS k wet)) ∧ Up w w' := by
  have hu := Try.underlying39
  have HB := Up.refl w
  have HC := Aside0.mk hC
  clear hC
  show Calls Try.prog 49 #[.agg #[.int .i64 k.f0, .slice A k.f1.length c, .int .i64 k.f2, .int .i64 k.f3], .pointer (some ⟨B, 0, none⟩)] w _
  go_enter Try.func49, Try.ntmps49
  go_wp2_with fail
  (with_reducible refine (Output_c k A c wet _ _ rfl (C_up HC.out (by repeat (with_reducible first | exact HB | apply Up.alloc | apply Up.drewN | apply Up.drew)))).mono ?_)
  rintro e w1 ⟨rfl, hb⟩
  have HB2 : Up w w1 := Up.step (by repeat (with_reducible first | exact HB | apply Up.alloc | apply Up.drewN | apply Up.drew)) hb
  go_wp2
  go_ret
  exact ⟨rfl, HB2⟩
set_option maxHeartbeats 4000000 in
theorem NeedsLit_c (k : SGunKind) (A : Option Addr) (c : Nat) (w : World) :
    Calls Try.prog 50 (#[.agg #[.int .i64 k.f0, .slice A k.f1.length c, .int .i64 k.f2, .int .i64 k.f3]] ++ #[]) w fun e w' => e = .returned (.int .i64 k.f3) ∧ Up w w' := by
  have hu := Try.underlying39
  have HB := Up.refl w
  show Calls Try.prog 50 #[.agg #[.int .i64 k.f0, .slice A k.f1.length c, .int .i64 k.f2, .int .i64 k.f3]] w _
  go_enter Try.func50, Try.ntmps50
  go_wp2
  go_ret
  exact ⟨rfl, (by repeat (with_reducible first | exact HB | apply Up.alloc | apply Up.drewN | apply Up.drew))⟩
set_option maxHeartbeats 4000000 in
theorem PowerLit_c (k : SGunKind) (A : Option Addr) (c : Nat) (w : World) :
    Calls Try.prog 51 (#[.agg #[.int .i64 k.f0, .slice A k.f1.length c, .int .i64 k.f2, .int .i64 k.f3]] ++ #[]) w fun e w' => e = .returned (.int .i64 k.f2) ∧ Up w w' := by
  have hu := Try.underlying39
  have HB := Up.refl w
  show Calls Try.prog 51 #[.agg #[.int .i64 k.f0, .slice A k.f1.length c, .int .i64 k.f2, .int .i64 k.f3]] w _
  go_enter Try.func51, Try.ntmps51
  go_wp2
  go_ret
  exact ⟨rfl, (by repeat (with_reducible first | exact HB | apply Up.alloc | apply Up.drewN | apply Up.drew))⟩
def drawsS (ks : List SGunKind) (l : List SGun) (wet : Int) : List SDraw := drawsF (fun i => outS (kindK ks (rd_Gun l i).f3) wet) l (l.length - (0 : Int).toNat) 0
def needsS (ks : List SGunKind) (l : List SGun) : List SDraw := drawsF (fun i => (kindK ks (rd_Gun l i).f3).f3) l (l.length - (0 : Int).toNat) 0
set_option maxHeartbeats 4000000 in
theorem Draws_c (A0 : Option Addr) (c0 : Nat) (ks : List SGunKind) (A1 : Int → Option Addr) (C1 : Int → Nat) (B0 : Option Addr) (d0 : Nat) (l : List SGun) (wet : Int) (w : World) (R : List SDraw)
    (h : drawsS ks l wet = R) (hn : l.length ≤ 1000) (hr0 : RdGK w A0 ks A1 C1) (hr1 : Kd.C kGun w B0 l.length l) :
    Calls Try.prog 26 #[.slice A0 ks.length c0, .slice B0 l.length d0, .int .i64 wet] w fun e w' => ∃ v, e = .returned v ∧ Kd.R kDraw 53 w' w.heap.size (fun _ => True) v R ∧ Up w w' := by
  have HB := Up.refl w
  have HR0 := Aside0.mk hr0
  have HR1 := Aside0.mk hr1
  have HS := Aside0.mk (show drawsF (fun i => outS (kindK ks (rd_Gun l i).f3) wet) l (l.length - (0 : Int).toNat) 0 = R from h)
  have HN := Aside0.mk hn
  clear hr0 hr1 h hn
  go_enter Try.func26, Try.ntmps26
  go_wp2_with fail
  (with_reducible refine (draws_c 49 #[.pointer (some ⟨w.heap.size, 0, none⟩)] (fun k => outS k wet) _ _ ks A1 C1 _ _ l _ R HS.out HN.out (HR0.out.up (by repeat (with_reducible first | exact HB | apply Up.alloc | apply Up.drewN | apply Up.drew))) (C_up HR1.out (by repeat (with_reducible first | exact HB | apply Up.alloc | apply Up.drewN | apply Up.drew))) (fun args w => enters_ Try.func49 (by kernel_rfl) rfl args w) (fun W k A c hu hC => DrawsLit_c _ wet k A c W (by have := hu.size; simp at this; omega) (((Up.cells hu).1 _ 0 (by simp)).trans (by simp)) hC)).mono ?_)
  rintro e w1 ⟨v, rfl, hR, hb⟩
  have HB2 : Up w w1 := Up.step (by repeat (with_reducible first | exact HB | apply Up.alloc | apply Up.drewN | apply Up.drew)) hb
  have HO := Aside0.mk (Kd.R_lower hR (show w.heap.size ≤ _ by simp))
  clear hR
  go_wp2
  go_ret
  exact ⟨_, rfl, HO.out, HB2⟩
set_option maxHeartbeats 4000000 in
theorem Needs_c (A0 : Option Addr) (c0 : Nat) (ks : List SGunKind) (A1 : Int → Option Addr) (C1 : Int → Nat) (B0 : Option Addr) (d0 : Nat) (l : List SGun) (w : World) (R : List SDraw)
    (h : needsS ks l = R) (hn : l.length ≤ 1000) (hr0 : RdGK w A0 ks A1 C1) (hr1 : Kd.C kGun w B0 l.length l) :
    Calls Try.prog 28 #[.slice A0 ks.length c0, .slice B0 l.length d0] w fun e w' => ∃ v, e = .returned v ∧ Kd.R kDraw 53 w' w.heap.size (fun _ => True) v R ∧ Up w w' := by
  have HB := Up.refl w
  have HR0 := Aside0.mk hr0
  have HR1 := Aside0.mk hr1
  have HS := Aside0.mk (show drawsF (fun i => (kindK ks (rd_Gun l i).f3).f3) l (l.length - (0 : Int).toNat) 0 = R from h)
  have HN := Aside0.mk hn
  clear hr0 hr1 h hn
  go_enter Try.func28, Try.ntmps28
  go_wp2_with fail
  (with_reducible refine (draws_c 50 #[] (fun k => k.f3) _ _ ks A1 C1 _ _ l _ R HS.out HN.out (HR0.out.up (by repeat (with_reducible first | exact HB | apply Up.alloc | apply Up.drewN | apply Up.drew))) (C_up HR1.out (by repeat (with_reducible first | exact HB | apply Up.alloc | apply Up.drewN | apply Up.drew))) (fun args w => enters_ Try.func50 (by kernel_rfl) rfl args w) (fun W k A c hu hC => NeedsLit_c k A c W)).mono ?_)
  rintro e w1 ⟨v, rfl, hR, hb⟩
  have HO := Aside0.mk hR
  clear hR
  go_wp2
  go_ret
  exact ⟨_, rfl, HO.out, hb⟩

/-- the power of the guns that are on, as the sum goes -/
def powF (fl : Int → Int) (l : List SGun) : Nat → Int → Int → Int
  | 0, _, n => n
  | d + 1, i, n => if (rd_Gun l i).f4 = 1 then powF fl l d (i + 1) (wrap64 (n + fl i)) else powF fl l d (i + 1) n
theorem powF_step {fl : Int → Int} {l : List SGun} {n : Nat} {i s : Int} (h0 : 0 ≤ i) (h : i < n) : powF fl l (n - i.toNat) i s = if (rd_Gun l i).f4 = 1 then powF fl l (n - (i + 1).toNat) (i + 1) (wrap64 (s + fl i)) else powF fl l (n - (i + 1).toNat) (i + 1) s := by
  rw [show n - i.toNat = (n - (i + 1).toNat) + 1 by omega]; rfl
theorem powF_end {fl : Int → Int} {l : List SGun} {n : Nat} {i s : Int} (h : n ≤ i) : powF fl l (n - i.toNat) i s = s := by
  rw [show n - i.toNat = 0 by omega]; rfl
def sumD (xs : List SDraw) : Nat → Int → Int → Int
  | 0, _, n => n
  | d + 1, j, n => sumD xs d (j + 1) (wrap64 (n + (rd_Draw xs j).f1))
theorem sumD_step {xs : List SDraw} {n : Nat} {i s : Int} (h0 : 0 ≤ i) (h : i < n) : sumD xs (n - i.toNat) i s = sumD xs (n - (i + 1).toNat) (i + 1) (wrap64 (s + (rd_Draw xs i).f1)) := by
  rw [show n - i.toNat = (n - (i + 1).toNat) + 1 by omega]; rfl
theorem sumD_end {xs : List SDraw} {n : Nat} {i s : Int} (h : n ≤ i) : sumD xs (n - i.toNat) i s = s := by
  rw [show n - i.toNat = 0 by omega]; rfl
theorem sumD_fold (xs : List SDraw) : ∀ (d : Nat) (j s : Int), 0 ≤ j → j.toNat + d = xs.length → sumD xs d j s = (xs.drop j.toNat).foldl (fun n x => wrap64 (n + x.f1)) s := by
  intro d
  induction d with
  | zero => intro j s h0 h; rw [List.drop_eq_nil_of_le (by omega)]; rfl
  | succ d ih =>
    intro j s h0 h
    rw [List.drop_eq_getElem_cons (by omega : j.toNat < xs.length), List.foldl_cons, sumD, ih (j + 1) _ (by omega) (by omega), show (j + 1).toNat = j.toNat + 1 by omega]
    congr 2
    unfold rd_Draw; rw [List.getD_eq_getElem?_getD, List.getElem?_eq_getElem (by omega)]; rfl
theorem powF_fold (fl : Int → Int) (l : List SGun) : ∀ (d : Nat) (i s : Int), (drawsF fl l d i).foldl (fun n x => wrap64 (n + x.f1)) s = powF fl l d i s := by
  intro d
  induction d with
  | zero => intro i s; rfl
  | succ d ih =>
    intro i s
    simp only [drawsF, powF]
    split
    · rw [List.foldl_cons]; exact ih _ _
    · exact ih _ _
def powerS (ks : List SGunKind) (l : List SGun) : Int := powF (fun i => (kindK ks (rd_Gun l i).f3).f2) l (l.length - (0 : Int).toNat) 0 0
theorem sumD_pow (fl : Int → Int) (l : List SGun) (xs : List SDraw) (h : drawsF fl l (l.length - (0 : Int).toNat) 0 = xs) : sumD xs (xs.length - (0 : Int).toNat) 0 0 = powF fl l (l.length - (0 : Int).toNat) 0 0 := by
  rw [sumD_fold xs _ 0 0 (by omega) (by simp), ← powF_fold, h]; simp
theorem drawsF_len (fl : Int → Int) (l : List SGun) : ∀ (d : Nat) (i : Int), (drawsF fl l d i).length ≤ d := by
  intro d
  induction d with
  | zero => intro i; simp [drawsF]
  | succ d ih => intro i; simp only [drawsF]; split <;> (have := ih (i + 1); simp; omega)
set_option maxHeartbeats 4000000 in
theorem Power_c (A0 : Option Addr) (c0 : Nat) (ks : List SGunKind) (A1 : Int → Option Addr) (C1 : Int → Nat) (B0 : Option Addr) (d0 : Nat) (l : List SGun) (r : Int) (w : World)
    (h : powerS ks l = r) (hn : l.length ≤ 1000) (hr0 : RdGK w A0 ks A1 C1) (hr1 : Kd.C kGun w B0 l.length l) :
    Calls Try.prog 30 #[.slice A0 ks.length c0, .slice B0 l.length d0] w fun e w' => e = .returned (.int .i64 r) ∧ Up w w' := by
  have hu := Try.underlying53
  have HB := Up.refl w
  have HR0 := Aside0.mk hr0
  have HR1 := Aside0.mk hr1
  obtain ⟨xs, hx⟩ : ∃ xs, drawsF (fun i => (kindK ks (rd_Gun l i).f3).f2) l (l.length - (0 : Int).toNat) 0 = xs := ⟨_, rfl⟩
  have HX := Aside0.mk hx
  have HS := Aside0.mk (show sumD xs (xs.length - (0 : Int).toNat) 0 0 = r from (sumD_pow _ l xs hx).trans h)
  have HN := Aside0.mk hn
  have HXL := Aside0.mk (show xs.length ≤ 1000 by have := drawsF_len (fun i => (kindK ks (rd_Gun l i).f3).f2) l (l.length - (0 : Int).toNat) 0; rw [hx] at this; omega)
  clear hr0 hr1 h hn hx
  go_enter Try.func30, Try.ntmps30
  go_wp2_with fail
  (with_reducible refine (draws_c 51 #[] (fun k => k.f2) _ _ ks A1 C1 _ _ l _ xs HX.out HN.out (HR0.out.up (by repeat (with_reducible first | exact HB | apply Up.alloc | apply Up.drewN | apply Up.drew))) (C_up HR1.out (by repeat (with_reducible first | exact HB | apply Up.alloc | apply Up.drewN | apply Up.drew))) (fun args w => enters_ Try.func51 (by kernel_rfl) rfl args w) (fun W k A c hu hC => PowerLit_c k A c W)).mono ?_)
  rintro e w1 ⟨v, rfl, hR, hb⟩
  obtain ⟨A, c, rfl, hc, hC⟩ := Kd.R_reads hR
  have HC := Aside0.mk hC
  clear hR hC
  have HB1 := Up.refl w1
  have HUB := Aside0.mk hb
  clear HB hb
  go_wp2
  go_loopg [5, 12] (xs.length) (fun gk v5 v12 w' => ∃ i n : Int, v12 = .int .i64 i ∧ v5 = .int .i64 n ∧ 0 ≤ i ∧ xs.length - i.toNat ≤ gk ∧ Aside0 (sumD xs (xs.length - i.toNat) i n = r) ∧ Up w1 w')
  case atStart => exact ⟨0, 0, rfl, rfl, by omega, by omega, HS, HB1⟩
  case round =>
    clear HS HB1
    obtain ⟨i, n, rfl, rfl, hi, hg, HS, HB⟩ := hrel
    have HI := Aside0.mk hi
    by_cases hlt : i < xs.length
    · have HL := Aside0.mk hlt
      have HS := Aside0.mk ((sumD_step hi hlt).symm.trans HS.out)
      obtain ⟨ad, rfl⟩ : ∃ ad, A = some ad := by obtain ⟨ad, c, e, _⟩ := Kd.C_get HC.out zDraw i hi hlt; exact ⟨ad, e⟩
      obtain ⟨hx0, hx1⟩ := rx_Draw HC.out
      have hlt2 := decide_eq_true hlt
      replace hi := eq_true hi; replace hlt := eq_true hlt
      go_wp2
      go_roundg (gk - 1)
      case measure => have := HL.out; have := HI.out; omega
      case rel => exact ⟨i + 1, wrap64 (n + (rd_Draw xs i).f1), (by first | rfl | (simp; done) | (have := HL.out; have := HI.out; have := HXL.out; congr 1; unfold wrap64; omega)), rfl, by have := HI.out; omega, by have := HL.out; have := HI.out; omega, HS, (by repeat (with_reducible first | exact HB | apply Up.alloc | apply Up.drewN | apply Up.drew))⟩
    · have HS := Aside0.mk ((sumD_end (by omega : (xs.length : Int) ≤ i)).symm.trans HS.out)
      replace hlt := decide_eq_false hlt
      go_wp2
      go_ret
      exact ⟨ret_i HS.out, Up.step HUB.out HB⟩

end Go.Proofs.Ytahcalhpigmbgaa.H
