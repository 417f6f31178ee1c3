import Derived.Test.YtahcalhpigmbgaaHK
import Derived.Test.YtahcalhpigmbgaaHLq0
namespace Go.Proofs.Ytahcalhpigmbgaa.H
open Go.RowKit Go.Proofs.YtahcalhpigmbgaaW.PrintWords Go.Proofs.YtahcalhpigmbgaaW.PrintLast Go.Proofs.YtahcalhpigmbgaaW.PrintMore
set_option linter.unusedVariables false
set_option linter.unusedSimpArgs false
/-! GunParts -/
theorem join6 {α β γ δ ε ζ : Type} {F : α → β → γ → δ → ε → ζ → Prop} {G : Prop} {P : α → β → γ → δ → ε → ζ → Prop} (step : (∀ a b c d e f, F a b c d e f → P a b c d e f) → G) (rest : ∀ a b c d e f, F a b c d e f → P a b c d e f) : G := step rest
theorem infoDraw2 : (Try.prog.info? 53).map (fun i => (i.zero, i.size, i.bytes)) = some (some (.agg #[(.int .i64 0), (.int .i64 0)]), 2, 16) := by kernel_rfl
theorem R_litD (W : World) (base : Nat) (hb : base ≤ W.heap.size) : Kd.R kDraw 53 (W.alloc (.cells #[] 53)) base (fun _ => True) (.slice (some ⟨W.heap.size, 0, none⟩) 0 0) [] :=
  ⟨fun _ _ => trivial, OwnRow.lit W base (Reps.none _ _) hb (by simp)⟩
theorem DrawsN (A0 : Option Addr) (c0 : Nat) (ks : List SGunKind) (A1 : Int → Option Addr) (C1 : Int → Nat) (B0 : Option Addr) (d0 n : Nat) (l : List SGun) (wet : Int) (w : World) (R : List SDraw) (hn0 : l.length = n)
    (h : drawsS ks l wet = R) (hn : l.length ≤ 90) (hr0 : RdGK w A0 ks A1 C1) (hr1 : Kd.C kGun w B0 l.length l) :
    Calls Try.prog 26 #[.slice A0 ks.length c0, .slice B0 n d0, .int .i64 wet] w fun e w' => ∃ A c, e = .returned (.slice A R.length c) ∧ Kd.C kDraw w' A R.length R ∧ Up w w' := by
  subst hn0; exact DrawsC A0 c0 ks A1 C1 B0 d0 l wet w R h hn hr0 hr1
theorem NeedsN (A0 : Option Addr) (c0 : Nat) (ks : List SGunKind) (A1 : Int → Option Addr) (C1 : Int → Nat) (B0 : Option Addr) (d0 n : Nat) (l : List SGun) (w : World) (R : List SDraw) (hn0 : l.length = n)
    (h : needsS ks l = R) (hn : l.length ≤ 90) (hr0 : RdGK w A0 ks A1 C1) (hr1 : Kd.C kGun w B0 l.length l) :
    Calls Try.prog 28 #[.slice A0 ks.length c0, .slice B0 n d0] w fun e w' => ∃ A c, e = .returned (.slice A R.length c) ∧ Kd.C kDraw w' A R.length R ∧ Up w w' := by
  subst hn0; exact NeedsC A0 c0 ks A1 C1 B0 d0 l w R h hn hr0 hr1
theorem PowerN (A0 : Option Addr) (c0 : Nat) (ks : List SGunKind) (A1 : Int → Option Addr) (C1 : Int → Nat) (B0 : Option Addr) (d0 n : Nat) (l : List SGun) (r : Int) (w : World) (hn0 : l.length = n)
    (h : powerS ks l = r) (hn : l.length ≤ 90) (hr0 : RdGK w A0 ks A1 C1) (hr1 : Kd.C kGun w B0 l.length l) :
    Calls Try.prog 30 #[.slice A0 ks.length c0, .slice B0 n d0] w fun e w' => e = .returned (.int .i64 r) ∧ Up w w' := by
  subst hn0; exact Power_c A0 c0 ks A1 C1 B0 d0 l r w h (by omega) hr0 hr1
set_option maxHeartbeats 16000000 in
set_option maxRecDepth 100000 in
theorem GunParts_c (A0 : Option Addr) (c0 : Nat) (ks : List SGunKind) (A1 : Int → Option Addr) (C1 : Int → Nat) (B0 : Option Addr) (d0 : Nat) (l : List SGun) (at_ wet : Int) (w : World) (hr0 : RdGK w A0 ks A1 C1) (hr1 : Kd.C kGun w B0 l.length l) (hd0 : l.length ≤ d0) :
    Calls Try.prog 8 #[.agg #[.slice A0 ks.length c0, .slice B0 l.length d0], .int .i64 at_, .int .i64 wet] w fun e w' => e = .returned (.bool true) ∧ Up w w' := by
  have hu := Try.underlying25
  have HB := Up.refl w
  have HR0 := Aside0.mk hr0
  have HR1 := Aside0.mk hr1
  have HD0 := Aside0.mk hd0
  obtain ⟨b, hb⟩ : ∃ b, rightB ks l = b := ⟨_, rfl⟩
  have HF := Aside0.mk hb
  clear hb hr0 hr1 hd0
  go_enter Try.func8, Try.ntmps8
  go_wp2_with fail
  (with_reducible refine (alive_c _).mono ?_)
  rintro e w1 ⟨rfl, hb⟩
  have hk := Up.blk hb (blk_new w _)
  have HB := Up.step (HB.alloc _) hb
  clear hb
  have q0 := (blk_cell hk 0).trans rfl
  have q1 := (blk_cell hk 1).trans rfl
  simp only [List.getElem?_toArray, List.getElem?_cons_zero, List.getElem?_cons_succ] at q0 q1
  go_wp2_with fail
  (with_reducible refine (right_c A0 c0 ks A1 C1 B0 d0 l b _ HF.out (HR0.out.up HB) (C_up HR1.out HB)).mono ?_)
  rintro e w2 ⟨rfl, hb⟩
  have hk := Up.blk hb hk
  have HB := Up.step HB hb
  clear hb q0 q1
  have q0 := (blk_cell hk 0).trans rfl
  have q1 := (blk_cell hk 1).trans rfl
  simp only [List.getElem?_toArray, List.getElem?_cons_zero, List.getElem?_cons_succ] at q0 q1
  have HBW := Aside0.mk HB
  cases b
  · go_wp2
    go_ret
    exact ⟨rfl, HBW.out⟩
  by_cases s1 : at_ < 0
  · replace s1 := decide_eq_true s1
    go_wp2
    go_ret
    exact ⟨rfl, HBW.out⟩
  by_cases s2 : (l.length : Int) < at_
  · replace s1 := decide_eq_false s1
    replace s2 := decide_eq_true s2
    go_wp2
    go_ret
    exact ⟨rfl, HBW.out⟩
  obtain ⟨hlk, hll, -, -⟩ := rightB_len HF.out
  have HLL := Aside0.mk hll
  have u1 : 0 ≤ at_ := by omega
  have u2 : at_ ≤ l.length := by omega
  obtain ⟨m, rfl⟩ : ∃ m : Nat, at_ = m := ⟨at_.toNat, by omega⟩
  have HM := Aside0.mk (show m ≤ l.length by omega)
  replace s1 := decide_eq_false s1; replace s2 := decide_eq_false s2
  go_upto_region 5 with (fail)
  have v1 : m ≤ l.length := HM.out
  have v2 : m ≤ d0 := by have := HM.out; have := HD0.out; omega
  replace u1 := eq_true u1; replace u2 := eq_true u2; replace v1 := eq_true v1; replace v2 := eq_true v2
  go_region
  obtain ⟨B2, hB2⟩ : ∃ B2, (if d0 = m then B0 else Option.map (fun x => x.add (m * 8)) B0) = B2 := ⟨_, rfl⟩
  rw [hB2]
  obtain ⟨la, hla⟩ : ∃ la, l.take m = la := ⟨_, rfl⟩
  obtain ⟨lb, hlb⟩ : ∃ lb, l.drop m = lb := ⟨_, rfl⟩
  have HNa := Aside0.mk (show la.length = m by rw [← hla, List.length_take]; have := HM.out; omega)
  have HNb := Aside0.mk (show lb.length = l.length - m by rw [← hlb, List.length_drop])
  have HR0 := Aside0.mk (HR0.out.up HBW.out)
  have HR1 := Aside0.mk (C_up HR1.out HBW.out)
  have HC1 := Aside0.mk (show Kd.C kGun w2 B0 la.length la by rw [← hla]; exact Kd.C_take HR1.out HM.out)
  have HC2 := Aside0.mk (show Kd.C kGun w2 B2 lb.length lb by rw [← hlb, ← hB2]; exact Kd.C_drop HR1.out HM.out (by have := HM.out; have := HD0.out; omega))
  obtain ⟨Ra, hRa⟩ : ∃ R, drawsS ks la wet = R := ⟨_, rfl⟩
  obtain ⟨Rb, hRb⟩ : ∃ R, drawsS ks lb wet = R := ⟨_, rfl⟩
  obtain ⟨Na, hNa⟩ : ∃ R, needsS ks la = R := ⟨_, rfl⟩
  obtain ⟨Nb, hNb⟩ : ∃ R, needsS ks lb = R := ⟨_, rfl⟩
  have HRl := Aside0.mk (show drawsS ks l wet = Ra ++ Rb by rw [← hRa, ← hRb, drawsS_list, drawsS_list, drawsS_list, ← hla, ← hlb]; exact (onL_parts _ l m).symm)
  have HNl := Aside0.mk (show needsS ks l = Na ++ Nb by rw [← hNa, ← hNb, needsS_list, needsS_list, needsS_list, ← hla, ← hlb]; exact (onL_parts _ l m).symm)
  have HPl := Aside0.mk (show wrap64 (powerS ks la + powerS ks lb) = powerS ks l by rw [powerS_list, powerS_list, powerS_list, ← hla, ← hlb]; exact pwL_parts _ l m)
  have HRa := Aside0.mk hRa
  have HRb := Aside0.mk hRb
  have HNaS := Aside0.mk hNa
  have HNbS := Aside0.mk hNb
  have HLa := Aside0.mk (show Ra.length ≤ 90 by rw [← hRa]; have := drawsF_len (fun i => outS (kindK ks (rd_Gun la i).f3) wet) la (la.length - (0 : Int).toNat) 0; have := HNa.out; have := HM.out; have := HLL.out; unfold drawsS; simp at *; omega)
  have HLb := Aside0.mk (show Rb.length ≤ 90 by rw [← hRb]; have := drawsF_len (fun i => outS (kindK ks (rd_Gun lb i).f3) wet) lb (lb.length - (0 : Int).toNat) 0; have := HNb.out; have := HLL.out; unfold drawsS; simp at *; omega)
  have HLna := Aside0.mk (show Na.length ≤ 90 by rw [← hNa]; have := drawsF_len (fun i => (kindK ks (rd_Gun la i).f3).f3) la (la.length - (0 : Int).toNat) 0; have := HNa.out; have := HM.out; have := HLL.out; unfold needsS; simp at *; omega)
  have HLnb := Aside0.mk (show Nb.length ≤ 90 by rw [← hNb]; have := drawsF_len (fun i => (kindK ks (rd_Gun lb i).f3).f3) lb (lb.length - (0 : Int).toNat) 0; have := HNb.out; have := HLL.out; unfold needsS; simp at *; omega)
  have HMX := HM.out
  clear hRa hRb hNa hNb hla hlb hB2
  have K0 := Aside0.mk (show ∀ W, Up w2 W → W.cell? ⟨w.heap.size, 0, none⟩ = some (.slice A0 ks.length c0) from fun W u => (blk_cell (Up.blk u hk) 0).trans rfl)
  have K1 := Aside0.mk (show ∀ W, Up w2 W → W.cell? ⟨w.heap.size, 1, none⟩ = some (.slice B0 l.length d0) from fun W u => (blk_cell (Up.blk u hk) 1).trans rfl)
  clear hk HMX
  go_wp2_with fail
  clear q0 q1
  (with_reducible refine (DrawsN A0 c0 ks A1 C1 B0 d0 m la wet _ Ra HNa.out HRa.out (by have := HNa.out; have := HM.out; have := HLL.out; omega) (HR0.out.up (Up.refl w2).drew) (C_up HC1.out (Up.refl w2).drew)).mono ?_)
  rintro e w3 ⟨DA, dc, rfl, hC, hb⟩
  have HU3 := Aside0.mk (Up.step (Up.refl w2).drew hb)
  have HDa := Aside0.mk hC
  have q0 := K0.out _ HU3.out
  have q1 := K1.out _ HU3.out
  clear hC hb
  go_wp2_with fail
  clear q0 q1
  (with_reducible refine (NeedsN A0 c0 ks A1 C1 B0 d0 m la _ Na HNa.out HNaS.out (by have := HNa.out; have := HM.out; have := HLL.out; omega) (HR0.out.up HU3.out) (C_up HC1.out HU3.out)).mono ?_)
  rintro e w4 ⟨EA, ec, rfl, hC, hb⟩
  have HU4 := Aside0.mk (Up.step HU3.out hb)
  have HDa := Aside0.mk (C_up HDa.out hb)
  have HEa := Aside0.mk hC
  have q0 := K0.out _ HU4.out
  have q1 := K1.out _ HU4.out
  have r0 := fun ob => K0.out (w4.alloc ob) (HU4.out.alloc ob)
  clear hC hb
  go_upto_region 8 with (fail)
  apply join6 (F := fun (X : World) (A : Option Addr) (c : Nat) (v1 : Value) (FA : Option Addr) (fc : Nat) => Up w4 X ∧ Kd.C kDraw X A ([] ++ Ra ++ Rb).length ([] ++ Ra ++ Rb))
  · intro key
    go_region_law (first | (refine Kd.R_append_rows_step kDraw (Rr := kDraw.K w4) (w0 := w4) (w4).heap.size rfl (.tmp 44) (.tmp 45) 41 53 _ 16 rfl Try.underlying41 infoDraw2 rfl (by decide) (by decide) _ [] Ra DA Ra.length dc (fun _ => True) (fun _ => False) (by simp [Act.eval, Act.put]) (by simp [Act.eval, Act.put]) (Kd.R_drew (R_litD w4 w4.heap.size (Nat.le_refl _))) (ReadsRow.imp_ HDa.out (((Up.refl w4).alloc _).drew) (fun _ _ h => h)) (fun x cs hx => by obtain rfl := kDraw_open hx; exact kDraw_mkM _ _ _ _) (fun _ h => h.elim) (fun _ _ => trivial) (((Up.refl w4).alloc _).drew) (by simp) (by have := HLa.out; simp; omega) ?_; intro v1 w5 hR5 hB5 hg5 hat5; have hU5 : Up w4 w5 := hB5; have q5 := K0.out w5 (Up.step HU4.out hU5)) | (refine Kd.R_append_rows_step kDraw (Rr := kDraw.K w6) (w0 := w4) (w4).heap.size rfl (.tmp 46) (.tmp 51) 41 53 _ 16 rfl Try.underlying41 infoDraw2 rfl (by decide) (by decide) _ ([] ++ Ra) Rb FA Rb.length fc (fun _ => True) (fun _ => False) (by simp [Act.eval, Act.put]) (by simp [Act.eval, Act.put]) (Kd.R_below hR5 hb6) hC6 (fun x cs hx => by obtain rfl := kDraw_open hx; exact kDraw_mkM _ _ _ _) (fun _ h => h.elim) (fun _ _ => trivial) (Up.step hU5 hb6) (by exact (Up.step hU5 hb6).size) (by have := HLa.out; have := HLb.out; simp; omega) ?_; intro v2 w7 hR7 hB7 hg7 hat7) | (go_simp; (with_reducible refine (DrawsN A0 c0 ks A1 C1 B2 (d0 - m) (l.length - m) lb wet _ Rb HNb.out HRb.out (by have := HNb.out; have := HLL.out; omega) (HR0.out.up (Up.step HU4.out hU5)) (C_up HC2.out (Up.step HU4.out hU5))).mono ?_); rintro e w6 ⟨FA, fc, rfl, hC6, hb6⟩))
    all_goals
      obtain ⟨XA, xc, rfl, -, hC⟩ := Kd.R_reads hR7
      exact key w7 XA xc v1 FA fc ⟨hB7, hC⟩
  rintro w8 GA gc vv1 FF1 ff1 ⟨hu8, hC8⟩
  have HU8 := Aside0.mk (Up.step HU4.out hu8)
  have HEa := Aside0.mk (C_up HEa.out hu8)
  have HG := Aside0.mk hC8
  clear hu8 hC8
  have q0 := K0.out _ HU8.out
  have q1 := K1.out _ HU8.out
  have r0 := fun ob => K0.out (w8.alloc ob) (HU8.out.alloc ob)
  go_upto_region 9 with (fail)
  apply join6 (F := fun (X : World) (A : Option Addr) (c : Nat) (v1 : Value) (FA : Option Addr) (fc : Nat) => Up w8 X ∧ Kd.C kDraw X A ([] ++ Na ++ Nb).length ([] ++ Na ++ Nb))
  · intro key
    go_region_law (first | (refine Kd.R_append_rows_step kDraw (Rr := kDraw.K w8) (w0 := w8) (w8).heap.size rfl (.tmp 53) (.tmp 54) 41 53 _ 16 rfl Try.underlying41 infoDraw2 rfl (by decide) (by decide) _ [] Na EA Na.length ec (fun _ => True) (fun _ => False) (by simp [Act.eval, Act.put]) (by simp [Act.eval, Act.put]) (Kd.R_drew (R_litD w8 w8.heap.size (Nat.le_refl _))) (ReadsRow.imp_ HEa.out (((Up.refl w8).alloc _).drew) (fun _ _ h => h)) (fun x cs hx => by obtain rfl := kDraw_open hx; exact kDraw_mkM _ _ _ _) (fun _ h => h.elim) (fun _ _ => trivial) (((Up.refl w8).alloc _).drew) (by simp) (by have := HLna.out; simp; omega) ?_; intro v1 w5 hR5 hB5 hg5 hat5; have hU5 : Up w8 w5 := hB5; have q5 := K0.out w5 (Up.step HU8.out hU5)) | (refine Kd.R_append_rows_step kDraw (Rr := kDraw.K w6) (w0 := w8) (w8).heap.size rfl (.tmp 55) (.tmp 59) 41 53 _ 16 rfl Try.underlying41 infoDraw2 rfl (by decide) (by decide) _ ([] ++ Na) Nb FA Nb.length fc (fun _ => True) (fun _ => False) (by simp [Act.eval, Act.put]) (by simp [Act.eval, Act.put]) (Kd.R_below hR5 hb6) hC6 (fun x cs hx => by obtain rfl := kDraw_open hx; exact kDraw_mkM _ _ _ _) (fun _ h => h.elim) (fun _ _ => trivial) (Up.step hU5 hb6) (by exact (Up.step hU5 hb6).size) (by have := HLna.out; have := HLnb.out; simp; omega) ?_; intro v2 w7 hR7 hB7 hg7 hat7) | (go_simp; (with_reducible refine (NeedsN A0 c0 ks A1 C1 B2 (d0 - m) (l.length - m) lb _ Nb HNb.out HNbS.out (by have := HNb.out; have := HLL.out; omega) (HR0.out.up (Up.step HU8.out hU5)) (C_up HC2.out (Up.step HU8.out hU5))).mono ?_); rintro e w6 ⟨FA, fc, rfl, hC6, hb6⟩))
    all_goals
      obtain ⟨XA, xc, rfl, -, hC⟩ := Kd.R_reads hR7
      exact key w7 XA xc v1 FA fc ⟨hB7, hC⟩
  rintro w9 HA hc vv2 FF2 ff2 ⟨hu9, hC9⟩
  have HU9 := Aside0.mk (Up.step HU8.out hu9)
  have HG := Aside0.mk (C_up HG.out hu9)
  have HH := Aside0.mk hC9
  clear hu9 hC9
  obtain ⟨LL, hLL⟩ : ∃ L, [] ++ Ra ++ Rb = L := ⟨_, rfl⟩
  obtain ⟨MM, hMM⟩ : ∃ L, [] ++ Na ++ Nb = L := ⟨_, rfl⟩
  have HRl := Aside0.mk (show drawsS ks l wet = LL by rw [HRl.out, ← hLL]; rfl)
  have HNl := Aside0.mk (show needsS ks l = MM by rw [HNl.out, ← hMM]; rfl)
  rw [hLL] at HG
  rw [hMM] at HH
  have hln : Ra.length + Rb.length = LL.length := by rw [← hLL]; simp
  have hmn : Na.length + Nb.length = MM.length := by rw [← hMM]; simp
  (try rw [hLL])
  (try rw [hMM])
  (try rw [hln])
  (try rw [hmn])
  clear hln hmn
  obtain ⟨pa, hpa⟩ : ∃ p, powerS ks la = p := ⟨_, rfl⟩
  obtain ⟨pb, hpb⟩ : ∃ p, powerS ks lb = p := ⟨_, rfl⟩
  obtain ⟨pl, hpl⟩ : ∃ p, powerS ks l = p := ⟨_, rfl⟩
  have hsum : wrap64 (pa + pb) = pl := by rw [← hpa, ← hpb, ← hpl]; exact HPl.out
  have hsumk : IntKind.i64.wrap (pa + pb) = pl := (i64_w _).trans hsum
  have HPa := Aside0.mk hpa
  have HPb := Aside0.mk hpb
  have HPp := Aside0.mk hpl
  clear hLL hMM hpa hpb hpl HPl
  have q0 := K0.out _ HU9.out
  have q1 := K1.out _ HU9.out
  go_upto_region 10 with (fail)
  first | (go_region_held3 (fun w' => Up w9 w' ∧ w'.cell? ⟨w.heap.size, 0, none⟩ = some (.slice A0 ks.length c0) ∧ w'.cell? ⟨w.heap.size, 1, none⟩ = some (.slice B0 l.length d0)) (first | (have hU_ := (Up.refl w9).drew; exact ⟨hU_, K0.out _ (Up.step HU9.out hU_), K1.out _ (Up.step HU9.out hU_)⟩) | (have hU_ : Up w9 _ := (by assumption); exact ⟨hU_, K0.out _ (Up.step HU9.out hU_), K1.out _ (Up.step HU9.out hU_)⟩)) (first | (go_at_call 26; (with_reducible refine (DrawsC A0 c0 ks A1 C1 B0 d0 l wet _ LL HRl.out HLL.out (HR0.out.up (Up.step HU9.out ?_)) (C_up HR1.out (Up.step HU9.out ?_))).mono ?_); (first | assumption | exact (Up.refl w9).drew); (first | assumption | exact (Up.refl w9).drew); rintro e w' ⟨xA, xc, rfl, hC, hb⟩; have hU := Up.step (w := w9) (by first | assumption | exact (Up.refl w9).drew) hb; have HCx := Aside0.mk hC; have HCg := Aside0.mk (C_up HG.out (Up.step (by first | assumption | exact (Up.refl w9).drew) hb)); clear hC; clear hb) | (go_at_call 28; (with_reducible refine (NeedsC A0 c0 ks A1 C1 B0 d0 l _ MM HNl.out HLL.out (HR0.out.up (Up.step HU9.out ?_)) (C_up HR1.out (Up.step HU9.out ?_))).mono ?_); (first | assumption | exact (Up.refl w9).drew); (first | assumption | exact (Up.refl w9).drew); rintro e w' ⟨yA, yc, rfl, hC, hb⟩; have hU := Up.step (w := w9) (by first | assumption | exact (Up.refl w9).drew) hb; have HCx := Aside0.mk hC; have HCg := Aside0.mk (C_up HH.out (Up.step (by first | assumption | exact (Up.refl w9).drew) hb)); clear hC; clear hb) | (go_at_call 25; (first | (with_reducible refine (Same_c GA gc LL xA xc LL true _ (sameS_refl _) HCg.out HCx.out).mono ?_) | (with_reducible refine (Same_c HA hc MM yA yc MM true _ (sameS_refl _) HCg.out HCx.out).mono ?_)); rintro e w' ⟨rfl, hb⟩; have hU := Up.step (w := w9) (by first | assumption | exact (Up.refl w9).drew) hb; clear hb) | (go_at_call 30; (first | (with_reducible refine (PowerN A0 c0 ks A1 C1 B0 d0 m la pa _ HNa.out HPa.out (by have := HNa.out; have := HM.out; have := HLL.out; omega) (HR0.out.up (Up.step HU9.out ?_)) (C_up HC1.out (Up.step HU9.out ?_))).mono ?_) | (with_reducible refine (PowerN A0 c0 ks A1 C1 B2 (d0 - m) (l.length - m) lb pb _ HNb.out HPb.out (by have := HNb.out; have := HLL.out; omega) (HR0.out.up (Up.step HU9.out ?_)) (C_up HC2.out (Up.step HU9.out ?_))).mono ?_) | (with_reducible refine (PowerN A0 c0 ks A1 C1 B0 d0 l.length l pl _ rfl HPp.out HLL.out (HR0.out.up (Up.step HU9.out ?_)) (C_up HR1.out (Up.step HU9.out ?_))).mono ?_)); (first | assumption | exact (Up.refl w9).drew); (first | assumption | exact (Up.refl w9).drew); rintro e w' ⟨rfl, hb⟩; have hU := Up.step (w := w9) (by first | assumption | exact (Up.refl w9).drew) hb; clear hb))) | fail
  all_goals
    have HZ := Aside0.mk (show Up w9 _ by assumption)
    go_wp2
    go_ret
    first | exact ⟨rfl, Up.step HBW.out (Up.step HU9.out HZ.out)⟩ | exact ⟨ret_b (by simp), Up.step HBW.out (Up.step HU9.out HZ.out)⟩

end Go.Proofs.Ytahcalhpigmbgaa.H
