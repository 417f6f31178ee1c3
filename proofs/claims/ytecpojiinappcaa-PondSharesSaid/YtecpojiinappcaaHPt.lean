import Derived.Test.YtecpojiinappcaaHK
import Derived.Test.YtecpojiinappcaaHPr2
namespace Go.Proofs.Ytecpojiinappcaa.H
open Go.RowKit Go.Proofs.YtecpojiinappcaaW.PrintWords Go.Proofs.YtecpojiinappcaaW.PrintLast Go.Proofs.YtecpojiinappcaaW.PrintMore
set_option linter.unusedVariables false
set_option linter.unusedSimpArgs false
/-! spares, Spare, Total, sum: of the program and of the reference -/
theorem errF_zeroP {e : Int → Int} : ∀ (d : Nat) (i : Int), errF e d i = 0 → ∀ j, i ≤ j → j < i + d → e j = 0 := by
  intro d
  induction d with
  | zero => intro i _ j h1 h2; omega
  | succ d ih =>
    intro i h j h1 h2
    rw [errF] at h
    by_cases e0 : e i = 0
    · rw [if_pos e0] at h
      by_cases e1 : j = i
      · rw [e1]; exact e0
      · exact ih (i + 1) h j (by omega) (by omega)
    · rw [if_neg e0] at h; exact absurd h e0
def ponOk (p : SPond) : Prop := (1 ≤ p.f0 ∧ p.f0 ≤ 9999) ∧ 0 ≤ p.f2 ∧ p.f2 ≤ p.f1 ∧ p.f1 ≤ p.f3 ∧ p.f3 ≤ 1000000000 ∧ 0 ≤ p.f4 ∧ p.f4 ≤ 10000000
theorem ponB_iff {p : SPond} : ponB p = false ↔ ponOk p := by
  unfold ponB ponOk; simp; omega
def PB (l : List SPond) : Prop := l.length ≤ 8 ∧ ∀ i : Int, 0 ≤ i → i < l.length → ponOk (rd_Pond l i)
theorem ponR_ok {l : List SPond} (h : ponR l = 0) : PB l := by
  unfold ponR at h
  by_cases g : 8 < l.length
  · rw [if_pos g] at h; omega
  · rw [if_neg g] at h
    refine ⟨by omega, fun i h0 h1 => ?_⟩
    have := errF_zeroP _ _ h i h0 (by simp; omega)
    apply ponB_iff.1
    unfold ponE at this
    cases hb : ponB (rd_Pond l i)
    · rfl
    · rw [if_pos hb] at this; omega
theorem infoInt : (Try.prog.info? 3).map (fun i => (i.zero, i.size, i.bytes)) = some (some (.int .i64 0), 1, 8) := by kernel_rfl
theorem rx_Int {w : World} {ad : Addr} {n : Nat} {l : List Int} (h : Kd.C (Kd.int .i64) w (some ad) n l) :
    ∀ (W : World) (i : Int), Up w W → 0 ≤ i → i < n → W.cell? (ad.add i.toNat) = some (.int .i64 (rd_Int l i)) := by
  intro W i hu h0 h1
  obtain ⟨ad', c, e, hl, hK, hc⟩ := Kd.C_get h 0 i h0 h1
  cases e
  obtain rfl : c = [.int .i64 (rd_Int l i)] := hK
  have h2 := hc 0 _ rfl
  rw [show i.toNat * (Kd.int IntKind.i64).sz + 0 = i.toNat from by show i.toNat * 1 + 0 = i.toNat; omega] at h2
  exact (hu.cell (World.block_lt_of_cell? w _ h2)).trans h2
theorem genL_step {α : Type} {f : Int → α} {i : Int} (h0 : 0 ≤ i) : genL f (i + 1).toNat = genL f i.toNat ++ [f i] := by
  rw [show (i + 1).toNat = i.toNat + 1 by omega, genL_succ, Int.toNat_of_nonneg h0]
theorem genL_end {α : Type} {f : Int → α} {n : Nat} {i : Int} (h0 : 0 ≤ i) (h1 : i = n) : genL f i.toNat = genL f n := by rw [show i.toNat = n by omega]
def sprI (l : List SPond) (i : Int) : Int := (rd_Pond l i).f1 - (rd_Pond l i).f2
def sprL (l : List SPond) : List Int := genL (sprI l) l.length
theorem sprI_b {l : List SPond} (h : PB l) {i : Int} (h0 : 0 ≤ i) (h1 : i < l.length) : 0 ≤ sprI l i ∧ sprI l i ≤ 1000000000 := by
  have := h.2 i h0 h1; unfold ponOk at this; unfold sprI; omega
theorem spr_ok {l : List SPond} (h : PB l) : okW (sprL l) := by
  have hl : (sprL l).length = l.length := genL_len _ _
  refine ⟨by rw [hl]; exact h.1, fun i h0 h1 => ?_⟩
  rw [sprL, rdI_gen h0 (by omega)]; exact sprI_b h h0 (by omega)
def spareS (l : List SPond) : Int := sumI (sprL l)
theorem spareS_eq (l : List SPond) : spareS l = sumTo (sprI l) l.length := by
  have hl : (sprL l).length = l.length := genL_len _ _
  unfold spareS sumI; rw [hl]
  exact sumTo_congr fun i h0 h1 => rdI_gen h0 h1
def totalS (l : List SPond) : Int := sumTo (fun i => (rd_Pond l i).f1) l.length
def okB (ws : List Int) : Prop := ws.length ≤ 64 ∧ ∀ i : Int, 0 ≤ i → i < ws.length → 0 ≤ rd_Int ws i ∧ rd_Int ws i ≤ 1099511627776
theorem okW.B {ws : List Int} (h : okW ws) : okB ws := ⟨by have := h.1; omega, fun i a b => by have := h.2 i a b; omega⟩
theorem sumTo_rg {f : Int → Int} {n : Nat} {c i : Int} (hc : 0 ≤ c) (h : ∀ i : Int, 0 ≤ i → i < n → 0 ≤ f i ∧ f i ≤ c) (h0 : 0 ≤ i) (h1 : i ≤ n) : 0 ≤ sumTo f i.toNat ∧ sumTo f i.toNat ≤ i * c := by
  refine ⟨sumTo_nonneg fun k a b => (h k a (by omega)).1, ?_⟩
  have := sumTo_bound (f := f) (n := i.toNat) (c := c) fun k a b => (h k a (by omega)).2
  rwa [Int.toNat_of_nonneg h0] at this
theorem okB_rg {ws : List Int} (h : okB ws) {i : Int} (h0 : 0 ≤ i) (h1 : i ≤ ws.length) : 0 ≤ sumTo (rd_Int ws) i.toNat ∧ sumTo (rd_Int ws) i.toNat ≤ 70368744177664 := by
  have := sumTo_rg (f := rd_Int ws) (n := ws.length) (c := 1099511627776) (by omega) h.2 h0 h1
  have := h.1; omega
set_option maxHeartbeats 8000000 in
theorem sum_c (A0 : Option Addr) (c0 : Nat) (l : List Int) (w : World) (r : Int) (h : sumI l = r) (hok : okB l) (hr0 : Kd.C (Kd.int .i64) w A0 l.length l) :
    Calls Try.prog 36 #[.slice A0 l.length c0] w fun e w' => e = .returned (.int .i64 r) ∧ Up w w' := by
  have HB := Up.refl w
  have HS := Aside0.mk h
  have HK := Aside0.mk hok
  have HR := Aside0.mk hr0
  clear h hr0 hok
  go_enter Try.func36, Try.ntmps36
  go_wp2
  go_loopg [3, 5, 8] (l.length) (fun gk v3 _ v8 w' => ∃ (i s : Int), v3 = .int .i64 s ∧ v8 = .int .i64 i ∧ 0 ≤ i ∧ i ≤ l.length ∧ l.length - i.toNat ≤ gk ∧ Aside0 (sumTo (rd_Int l) i.toNat = s) ∧ Up w w')
  case atStart => exact ⟨0, 0, rfl, rfl, by omega, by omega, by omega, ⟨rfl⟩, HB⟩
  case round =>
    clear HB
    obtain ⟨i, s, rfl, rfl, hi, hil, hg, HZ, HB⟩ := hrel
    have HI := Aside0.mk hi
    have HIL := Aside0.mk hil
    clear hil
    by_cases hlt : i < l.length
    · have HL := Aside0.mk hlt
      obtain ⟨ad, rfl⟩ : ∃ ad, A0 = some ad := by obtain ⟨ad, c, e, _⟩ := Kd.C_get HR.out 0 i hi hlt; exact ⟨ad, e⟩
      have hx0 := rx_Int HR.out
      obtain ⟨x, hx⟩ : ∃ x, rd_Int l i = x := ⟨_, rfl⟩
      obtain ⟨z, hz⟩ : ∃ z, s + x = z := ⟨_, rfl⟩
      have HZ2 := Aside0.mk (show sumTo (rd_Int l) (i + 1).toNat = z by rw [sumTo_step hi, HZ.out, hx, hz])
      have hb := okB_rg HK.out (i := i + 1) (by omega) (by omega)
      rw [HZ2.out] at hb
      have p0 := hx0 _ i HB hi hlt
      rw [hx] at p0
      have hw1 : wrap64 (s + x) = z := by unfold wrap64; omega
      have hw2 : IntKind.i64.wrap (s + x) = z := (i64_w _).trans hw1
      have hlt2 := decide_eq_true hlt
      clear hx0 hx hz hb
      replace hi := eq_true hi; replace hlt := eq_true hlt
      go_wp2
      go_roundg (gk - 1)
      case measure => have := HL.out; have := HI.out; omega
      case rel => exact ⟨i + 1, z, (by first | rfl | (congr 1; done)), (by first | rfl | (simp; done) | (have := HL.out; have := HI.out; have := HK.out.1; congr 1; unfold wrap64; omega)), by have := HI.out; omega, by have := HL.out; omega, by have := HL.out; have := HI.out; omega, HZ2, HB⟩
    · have HS := Aside0.mk (show s = r by rw [← HS.out, ← HZ.out, sumI, show i.toNat = l.length by have := HIL.out; omega])
      replace hlt := decide_eq_false hlt
      go_wp2
      go_ret
      exact ⟨ret_i HS.out, HB⟩
set_option maxHeartbeats 8000000 in
theorem sumR_c (A0 : Option Addr) (c0 : Nat) (l : List Int) (w : World) (r : Int) (h : sumI l = r) (hok : okB l) (hr0 : Kd.C (Kd.int .i64) w A0 l.length l) :
    Calls Try.prog 31 #[.slice A0 l.length c0] w fun e w' => e = .returned (.int .i64 r) ∧ Up w w' := by
  have HB := Up.refl w
  have HS := Aside0.mk h
  have HK := Aside0.mk hok
  have HR := Aside0.mk hr0
  clear h hr0 hok
  go_enter Try.func31, Try.ntmps31
  go_wp2
  go_loopg [3, 4] (l.length) (fun gk v3 v8 w' => ∃ (i s : Int), v3 = .int .i64 s ∧ v8 = .int .i64 i ∧ 0 ≤ i ∧ i ≤ l.length ∧ l.length - i.toNat ≤ gk ∧ Aside0 (sumTo (rd_Int l) i.toNat = s) ∧ Up w w')
  case atStart => exact ⟨0, 0, rfl, rfl, by omega, by omega, by omega, ⟨rfl⟩, HB⟩
  case round =>
    clear HB
    obtain ⟨i, s, rfl, rfl, hi, hil, hg, HZ, HB⟩ := hrel
    have HI := Aside0.mk hi
    have HIL := Aside0.mk hil
    clear hil
    by_cases hlt : i < l.length
    · have HL := Aside0.mk hlt
      obtain ⟨ad, rfl⟩ : ∃ ad, A0 = some ad := by obtain ⟨ad, c, e, _⟩ := Kd.C_get HR.out 0 i hi hlt; exact ⟨ad, e⟩
      have hx0 := rx_Int HR.out
      obtain ⟨x, hx⟩ : ∃ x, rd_Int l i = x := ⟨_, rfl⟩
      obtain ⟨z, hz⟩ : ∃ z, s + x = z := ⟨_, rfl⟩
      have HZ2 := Aside0.mk (show sumTo (rd_Int l) (i + 1).toNat = z by rw [sumTo_step hi, HZ.out, hx, hz])
      have hb := okB_rg HK.out (i := i + 1) (by omega) (by omega)
      rw [HZ2.out] at hb
      have p0 := hx0 _ i HB hi hlt
      rw [hx] at p0
      have hw1 : wrap64 (s + x) = z := by unfold wrap64; omega
      have hw2 : IntKind.i64.wrap (s + x) = z := (i64_w _).trans hw1
      have hlt2 := decide_eq_true hlt
      clear hx0 hx hz hb
      replace hi := eq_true hi; replace hlt := eq_true hlt
      go_wp2
      go_roundg (gk - 1)
      case measure => have := HL.out; have := HI.out; omega
      case rel => exact ⟨i + 1, z, (by first | rfl | (congr 1; done)), (by first | rfl | (simp; done) | (have := HL.out; have := HI.out; have := HK.out.1; congr 1; unfold wrap64; omega)), by have := HI.out; omega, by have := HL.out; omega, by have := HL.out; have := HI.out; omega, HZ2, HB⟩
    · have HS := Aside0.mk (show s = r by rw [← HS.out, ← HZ.out, sumI, show i.toNat = l.length by have := HIL.out; omega])
      replace hlt := decide_eq_false hlt
      go_wp2
      go_ret
      exact ⟨ret_i HS.out, HB⟩
set_option maxHeartbeats 8000000 in
theorem spares_c (A0 : Option Addr) (c0 : Nat) (l : List SPond) (w : World) (hok : PB l) (hr0 : Kd.C kPond w A0 l.length l) :
    Calls Try.prog 26 #[.slice A0 l.length c0] w fun e w' => ∃ v, e = .returned v ∧ Kd.R (Kd.int .i64) 3 w' w.heap.size (fun _ => True) v (sprL l) ∧ Up w w' := by
  have hu := Try.underlying38
  have HB := Up.refl w
  have HK := Aside0.mk hok
  have HR := Aside0.mk hr0
  clear hr0 hok
  go_enter Try.func26, Try.ntmps26
  go_wp2
  go_loopg [3, 5, 8] (l.length) (fun gk v3 _ v8 w' => ∃ i : Int, v8 = .int .i64 i ∧ 0 ≤ i ∧ i ≤ l.length ∧ l.length - i.toNat ≤ gk ∧ Aside0 (Kd.R (Kd.int .i64) 3 w' w.heap.size (fun _ => True) v3 (genL (sprI l) i.toNat)) ∧ Up w w')
  case atStart => exact ⟨0, rfl, by omega, by omega, by omega, ⟨Kd.R_nil _ _ _ _ _⟩, HB⟩
  case round =>
    clear HB
    obtain ⟨i, rfl, hi, hil, hg, HO, HB⟩ := hrel
    have HI := Aside0.mk hi
    have HIL := Aside0.mk hil
    have HG := Aside0.mk hg
    clear hil hg
    by_cases hlt : i < l.length
    · have HL := Aside0.mk hlt
      obtain ⟨ad, rfl⟩ : ∃ ad, A0 = some ad := by obtain ⟨ad, c, e, _⟩ := Kd.C_get HR.out zPond i hi hlt; exact ⟨ad, e⟩
      obtain ⟨hx0, hx1, hx2, hx3, hx4⟩ := rx_Pond HR.out
      have hb := sprI_b HK.out hi hlt
      obtain ⟨z, hz⟩ : ∃ z, sprI l i = z := ⟨_, rfl⟩
      have HZ := Aside0.mk hz
      rw [hz] at hb
      have hw1 : wrap64 ((rd_Pond l i).f1 - (rd_Pond l i).f2) = z := by rw [show (rd_Pond l i).f1 - (rd_Pond l i).f2 = z from hz]; unfold wrap64; omega
      have hw2 : IntKind.i64.wrap ((rd_Pond l i).f1 - (rd_Pond l i).f2) = z := (i64_w _).trans hw1
      have hlt2 := decide_eq_true hlt
      have HBA := Aside0.mk HB
      clear hb hz
      replace hi := eq_true hi; replace hlt := eq_true hlt
      go_wp2_with ((with_reducible refine gate_dst (N := 19) rfl ?_); refine Kd.R_append (Kd.int .i64) (w0 := w) w.heap.size rfl (.tmp 12) (.tmp 18) 40 3 _ 8 rfl Try.underlying40 infoInt rfl (by decide) (by decide) _ (genL (sprI l) i.toNat) z [.int .i64 z] (fun _ => True) (fun _ => False) rfl (by simp [Act.eval]) rfl (fun _ h => h.elim) (fun _ _ => trivial) (Kd.R_alloc HO.out _) ?aB ?aS ?aL ?_; (case aB => exact HBA.out.alloc _); (case aS => have := HBA.out.size; simp; omega); (case aL => have := HK.out.1; have := HL.out; simp [genL_len]; omega); intro v1 w4 ho hb hg hat)
      have HO2 := Aside0.mk ho
      have HB2 := Aside0.mk (show Up w w4 from hb)
      clear ho hb hg hat HB
      go_wp2
      go_roundg (gk - 1)
      case measure => have := HL.out; have := HI.out; have := HG.out; omega
      case rel => exact ⟨i + 1, (by first | rfl | (simp; done) | (have := HL.out; have := HI.out; have := HK.out.1; congr 1; unfold wrap64; omega)), by have := HI.out; omega, by have := HL.out; omega, by have := HL.out; have := HI.out; have := HG.out; omega, ⟨by rw [genL_step HI.out, HZ.out]; exact HO2.out⟩, HB2.out⟩
    · have HZ := Aside0.mk (show genL (sprI l) i.toNat = sprL l from genL_end hi (by have := HIL.out; omega))
      replace hlt := decide_eq_false hlt
      go_wp2
      go_ret
      exact ⟨_, rfl, by have h := HO.out; rw [HZ.out] at h; exact h, HB⟩
set_option maxHeartbeats 8000000 in
theorem Spare_c (A0 : Option Addr) (c0 : Nat) (l : List SPond) (w : World) (r : Int) (h : spareS l = r) (hok : PB l) (hr0 : Kd.C kPond w A0 l.length l) :
    Calls Try.prog 13 #[.slice A0 l.length c0] w fun e w' => e = .returned (.int .i64 r) ∧ Up w w' := by
  have HB := Up.refl w
  have HK := Aside0.mk (spr_ok hok).B
  have HP := Aside0.mk hok
  have HR := Aside0.mk hr0
  have HS := Aside0.mk h
  clear h hr0 hok
  go_enter Try.func13, Try.ntmps13
  go_wp2_with fail
  (with_reducible refine (spares_c A0 c0 l _ HP.out (C_up HR.out HB)).mono ?_)
  rintro e w1 ⟨v, rfl, hR, hb⟩
  obtain ⟨B0, d0, rfl, -, hC⟩ := Kd.R_reads hR
  have HS := Aside0.mk (show sumI (sprL l) = r from HS.out)
  generalize sprL l = ws at hR hC HS HK
  have HU := Aside0.mk (Up.step HB hb)
  have HC := Aside0.mk hC
  clear hR hC hb HB
  have HB := Up.refl w1
  go_wp2
  go_loopg [3, 5, 9] (ws.length) (fun gk v3 _ v9 w' => ∃ (i s : Int), v3 = .int .i64 s ∧ v9 = .int .i64 i ∧ 0 ≤ i ∧ i ≤ ws.length ∧ ws.length - i.toNat ≤ gk ∧ Aside0 (sumTo (rd_Int ws) i.toNat = s) ∧ Up w1 w')
  case atStart => exact ⟨0, 0, rfl, rfl, by omega, by omega, by omega, ⟨rfl⟩, HB⟩
  case round =>
    clear HB
    obtain ⟨i, s, rfl, rfl, hi, hil, hg, HZ, HB⟩ := hrel
    have HI := Aside0.mk hi
    have HIL := Aside0.mk hil
    clear hil
    by_cases hlt : i < ws.length
    · have HL := Aside0.mk hlt
      obtain ⟨ad, rfl⟩ : ∃ ad, B0 = some ad := by obtain ⟨ad, c, e, _⟩ := Kd.C_get HC.out 0 i hi hlt; exact ⟨ad, e⟩
      have hx0 := rx_Int HC.out
      obtain ⟨x, hx⟩ : ∃ x, rd_Int ws i = x := ⟨_, rfl⟩
      obtain ⟨z, hz⟩ : ∃ z, s + x = z := ⟨_, rfl⟩
      have HZ2 := Aside0.mk (show sumTo (rd_Int ws) (i + 1).toNat = z by rw [sumTo_step hi, HZ.out, hx, hz])
      have hb := okB_rg HK.out (i := i + 1) (by omega) (by omega)
      rw [HZ2.out] at hb
      have p0 := hx0 _ i HB hi hlt
      rw [hx] at p0
      have hw1 : wrap64 (s + x) = z := by unfold wrap64; omega
      have hw2 : IntKind.i64.wrap (s + x) = z := (i64_w _).trans hw1
      have hlt2 := decide_eq_true hlt
      clear hx0 hx hz hb
      replace hi := eq_true hi; replace hlt := eq_true hlt
      go_wp2
      go_roundg (gk - 1)
      case measure => have := HL.out; have := HI.out; omega
      case rel => exact ⟨i + 1, z, (by first | rfl | (congr 1; done)), (by first | rfl | (simp; done) | (have := HL.out; have := HI.out; have := HK.out.1; congr 1; unfold wrap64; omega)), by have := HI.out; omega, by have := HL.out; omega, by have := HL.out; have := HI.out; omega, HZ2, HB⟩
    · have HS := Aside0.mk (show s = r by rw [← HS.out, ← HZ.out, sumI, show i.toNat = ws.length by have := HIL.out; omega])
      replace hlt := decide_eq_false hlt
      go_wp2
      go_ret
      exact ⟨ret_i HS.out, Up.step HU.out HB⟩

end Go.Proofs.Ytecpojiinappcaa.H
