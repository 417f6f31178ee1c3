import Derived.Test.YtahcalhpigmbgaaHK
import Derived.Test.YtahcalhpigmbgaaHGl
import Derived.Test.YtahcalhpigmbgaaHGf
import Derived.Test.YtahcalhpigmbgaaHIxGun
namespace Go.Proofs.Ytahcalhpigmbgaa.H
open Go.RowKit Go.Proofs.YtahcalhpigmbgaaW.PrintWords Go.Proofs.YtahcalhpigmbgaaW.PrintLast Go.Proofs.YtahcalhpigmbgaaW.PrintMore
set_option linter.unusedVariables false
set_option linter.unusedSimpArgs false
/-! gun.Right -/
def kindBad (k : SGunKind) : Bool := !(inB k.f0 1 9999) || (!(inB k.f2 0 1000000) || !(inB k.f3 0 1000000))
def kindE (l : List SGunKind) (i : Int) : Int :=
  if kindBad (rd_GunKind l i) = true then 2 else if 0 ≤ kindX (l.take i.toNat) (rd_GunKind l i).f0 then 7 else if fallB (rd_GunKind l i).f1 = true then 0 else 1
def gunBad (g : SGun) : Bool := !(inB g.f0 1 9999) || (!(inB g.f1 1 9999) || (!(inB g.f2 1 9999) || (!(inB g.f4 0 2) || (!(inB g.f5 0 20000000) || (!(inB g.f6 0 86400) || !(inB g.f7 0 86400))))))
def gunX (l : List SGun) (id : Int) : Int := idxF (fun j => (rd_Gun l j).f0 == id) (l.length - (0 : Int).toNat) 0
def gunE (kinds : List SGunKind) (l : List SGun) (i : Int) : Int :=
  if gunBad (rd_Gun l i) = true then 2 else if 0 ≤ gunX (l.take i.toNat) (rd_Gun l i).f0 then 7 else if kindX kinds (rd_Gun l i).f3 < 0 then 8 else 0
def rightS (kinds : List SGunKind) (l : List SGun) : Int :=
  if 64 < kinds.length ∨ 64 < l.length then 4 else if errF (kindE kinds) (kinds.length - (0 : Int).toNat) 0 = 0 then errF (gunE kinds l) (l.length - (0 : Int).toNat) 0 else errF (kindE kinds) (kinds.length - (0 : Int).toNat) 0
theorem rd_take {l : List SGunKind} {m : Nat} {i : Int} (h0 : 0 ≤ i) (h : i < m) : rd_GunKind (l.take m) i = rd_GunKind l i := by
  unfold rd_GunKind; rw [List.getD_eq_getElem?_getD, List.getD_eq_getElem?_getD, List.getElem?_take_of_lt (by omega)]
theorem RdGK.take {w : World} {A0 : Option Addr} {l : List SGunKind} {A1 : Int → Option Addr} {C1 : Int → Nat} (h : RdGK w A0 l A1 C1) (m : Nat) : RdGK w A0 (l.take m) A1 C1 := by
  obtain ⟨h1, h2, h3, h4⟩ := h
  have hl : (l.take m).length ≤ l.length := by simp; omega
  have hm : (l.take m).length ≤ m := by simp; omega
  refine ⟨fun e => by have := h1 e; omega, by omega, fun ad e => ?_, fun i a b => ?_⟩
  · obtain ⟨x0, x1, x2, x3⟩ := h3 ad e
    refine ⟨fun X i u a b => ?_, fun X i u a b => ?_, fun X i u a b => ?_, fun X i u a b => ?_⟩
    all_goals rw [rd_take a (by omega)]
    · exact x0 X i u a (by omega)
    · exact x1 X i u a (by omega)
    · exact x2 X i u a (by omega)
    · exact x3 X i u a (by omega)
  · rw [rd_take a (by omega)]; exact h4 i a (by omega)
theorem RdGK.nest {w : World} {A0 : Option Addr} {l : List SGunKind} {A1 : Int → Option Addr} {C1 : Int → Nat} (h : RdGK w A0 l A1 C1) {i : Int} (h0 : 0 ≤ i) (h1 : i < l.length) : Kd.C kPoint w (A1 i) (rd_GunKind l i).f1.length (rd_GunKind l i).f1 := (h.2.2.2 i h0 h1).2
theorem kind_no_n (n : Nat) (A0 : Option Addr) (c0 : Nat) (l : List SGunKind) (A1 : Int → Option Addr) (C1 : Int → Nat) (id : Int) (w : World) (hn : l.length = n) (h : kindX l id = -1) (hr0 : RdGK w A0 l A1 C1) :
    Calls Try.prog 36 #[.slice A0 n c0, .int .i64 id] w fun e w' => e = .returned (.tuple #[.agg #[.int .i64 0, .slice none 0 0, .int .i64 0, .int .i64 0], .bool false]) ∧ Up w w' := by
  subst hn; exact kind_no A0 c0 l A1 C1 id w h hr0
theorem kind_yes_n (n : Nat) (A0 : Option Addr) (c0 : Nat) (l : List SGunKind) (A1 : Int → Option Addr) (C1 : Int → Nat) (id j : Int) (w : World) (hn : l.length = n) (h : kindX l id = j) (hj : 0 ≤ j) (hr0 : RdGK w A0 l A1 C1) :
    Calls Try.prog 36 #[.slice A0 n c0, .int .i64 id] w fun e w' => e = .returned (.tuple #[.agg #[.int .i64 (rd_GunKind l j).f0, .slice (A1 j) (rd_GunKind l j).f1.length (C1 j), .int .i64 (rd_GunKind l j).f2, .int .i64 (rd_GunKind l j).f3], .bool true]) ∧ Up w w' := by
  subst hn; exact kind_yes A0 c0 l A1 C1 id j w h hj hr0
theorem kindX_cases (l : List SGunKind) (id : Int) : kindX l id = -1 ∨ 0 ≤ kindX l id := by
  rcases idxF_rng _ _ _ (rfl : kindX l id = kindX l id) with h | h
  · exact .inl h
  · exact .inr h.1
set_option maxHeartbeats 4000000 in
theorem rightLit_c (B : Nat) (id a0 a1 a2 a3 a4 a5 a6 a7 : Int) (w : World) (hb : B < w.heap.size) (hc : w.cell? ⟨B, 0, none⟩ = some (.int .i64 id)) :
    Calls Try.prog 39 #[.agg #[.int .i64 a0, .int .i64 a1, .int .i64 a2, .int .i64 a3, .int .i64 a4, .int .i64 a5, .int .i64 a6, .int .i64 a7], .pointer (some ⟨B, 0, none⟩)] w fun e w' => e = .returned (.bool (a0 == id)) ∧ Up w w' := by
  have hu := Try.underlying31
  have HB := Up.refl w
  go_enter Try.func39, Try.ntmps39
  go_wp2
  go_ret
  exact ⟨rfl, (by repeat (with_reducible first | exact HB | apply Up.alloc | apply Up.drewN | apply Up.drew))⟩
theorem rdg_take {l : List SGun} {m : Nat} {i : Int} (h0 : 0 ≤ i) (h : i < m) : rd_Gun (l.take m) i = rd_Gun l i := by
  unfold rd_Gun; rw [List.getD_eq_getElem?_getD, List.getD_eq_getElem?_getD, List.getElem?_take_of_lt (by omega)]
/-- ContainsFunc over the guns ahead of i, the closure holds the ID of gun i in block B -/
theorem ahead_c (n B : Nat) (id : Int) (A0 : Option Addr) (c0 : Nat) (l : List SGun) (w : World) (r : Bool) (hn : l.length = n) (h : decide (0 ≤ gunX l id) = r) (hr0 : Kd.C kGun w A0 l.length l) (hb : B < w.heap.size) (hc : w.cell? ⟨B, 0, none⟩ = some (.int .i64 id)) :
    Calls Try.prog 38 #[.slice A0 n c0, .func (.func 39) #[] #[.pointer (some ⟨B, 0, none⟩)]] w fun e w' => e = .returned (.bool r) ∧ Up w w' := by
  subst hn
  exact ContainsFunc_Gun_c 39 B (fun j => (rd_Gun l j).f0 == id) r A0 c0 l w h hr0 (fun args w => enters_ Try.func39 (by kernel_rfl) rfl args w) (fun W i hu h0 h1 => rightLit_c B id _ _ _ _ _ _ _ _ W (by have := hu.size; omega) (((Up.cells hu).1 B 0 hb).trans hc))
set_option maxHeartbeats 8000000 in
set_option maxRecDepth 100000 in
theorem Right_c (A0 : Option Addr) (c0 : Nat) (ks : List SGunKind) (A1 : Int → Option Addr) (C1 : Int → Nat) (B0 : Option Addr) (d0 : Nat) (l : List SGun) (w : World) (r : Int) (h : rightS ks l = r) (hr0 : RdGK w A0 ks A1 C1) (hk0 : ks.length ≤ c0) (hr1 : Kd.C kGun w B0 l.length l) (hd0 : l.length ≤ d0) :
    Calls Try.prog 11 #[.slice A0 ks.length c0, .slice B0 l.length d0] w fun e w' => e = .returned (.int .i64 r) ∧ Up w w' := by
  have hu := Try.underlying39
  have hu2 := Try.underlying31
  have HB := Up.refl w
  by_cases g1 : 64 < ks.length
  · obtain rfl : 4 = r := by simpa [rightS, g1] using h
    have g2 := decide_eq_true (show (64 : Int) < (ks.length : Int) by omega)
    clear h
    go_enter Try.func11, Try.ntmps11
    go_wp2
    go_ret
    exact ⟨rfl, HB⟩
  by_cases g3 : 64 < l.length
  · obtain rfl : 4 = r := by simpa [rightS, g3] using h
    have g4 := decide_eq_true (show (64 : Int) < (l.length : Int) by omega)
    have g2 := decide_eq_false (show ¬ (64 : Int) < (ks.length : Int) by omega)
    clear h
    go_enter Try.func11, Try.ntmps11
    go_wp2
    go_ret
    exact ⟨rfl, HB⟩
  have HS := Aside0.mk (show (if errF (kindE ks) (ks.length - (0 : Int).toNat) 0 = 0 then errF (gunE ks l) (l.length - (0 : Int).toNat) 0 else errF (kindE ks) (ks.length - (0 : Int).toNat) 0) = r by have h := h; rw [rightS, if_neg (by omega)] at h; exact h)
  have HN := Aside0.mk (show ks.length ≤ 64 ∧ l.length ≤ 64 ∧ ks.length ≤ c0 ∧ l.length ≤ d0 by omega)
  have HR0 := Aside0.mk hr0
  have HR1 := Aside0.mk hr1
  have g4 := decide_eq_false (show ¬ (64 : Int) < (l.length : Int) by omega)
  have g2 := decide_eq_false (show ¬ (64 : Int) < (ks.length : Int) by omega)
  clear h hr0 hr1 g1 g3 hk0 hd0
  go_enter Try.func11, Try.ntmps11
  go_wp2
  go_loopg [23] (ks.length) (fun gk v23 w' => ∃ i : Int, v23 = .int .i64 i ∧ 0 ≤ i ∧ ks.length - i.toNat ≤ gk ∧ Aside0 (errF (kindE ks) (ks.length - (0 : Int).toNat) 0 = errF (kindE ks) (ks.length - i.toNat) i) ∧ Up w w')
  case atStart => exact ⟨0, rfl, by omega, by omega, ⟨rfl⟩, HB⟩
  case round =>
    clear HB
    obtain ⟨i, rfl, hi, hg, HE, HB⟩ := hrel
    have HI := Aside0.mk hi
    have hs0 := HB.size
    by_cases hlt : i < ks.length
    · have HE := Aside0.mk (HE.out.trans (errF_step hi hlt))
      have HL := Aside0.mk hlt
      obtain ⟨ad, rfl⟩ : ∃ ad, A0 = some ad := by
        cases A0 with
        | none => have := HR0.out.1 rfl; omega
        | some ad => exact ⟨ad, rfl⟩
      obtain ⟨hx0, hx1, hx2, hx3⟩ := HR0.out.2.2.1 ad rfl
      have hlt2 := decide_eq_true hlt
      have hle : i ≤ (ks.length : Int) := by omega
      have hlc : i ≤ (c0 : Int) := by have := HN.out; omega
      replace hi := eq_true hi; replace hlt := eq_true hlt; replace hle := eq_true hle; replace hlc := eq_true hlc
      cases t1 : inB (rd_GunKind ks i).f0 1 9999
      rotate_left
      cases t2 : inB (rd_GunKind ks i).f2 0 1000000
      rotate_left
      cases t3 : inB (rd_GunKind ks i).f3 0 1000000
      rotate_left
      · have HT := Aside0.mk (show kindBad (rd_GunKind ks i) = false by simp [kindBad, *])
        have hn : (ks.take i.toNat).length = i.toNat := by have := HL.out; have := HI.out; simp; omega
        have HNN := Aside0.mk hn
        clear hn
        rcases kindX_cases (ks.take i.toNat) (rd_GunKind ks i).f0 with hx | hx
        · have HX := Aside0.mk hx
          clear hx
          go_wp2_with (go_at_call 35; (with_reducible refine (in_q _ _ _ _).mono ?_); rintro e w' ⟨rfl, rfl⟩)
          go_region_with (go_at_call 36; (with_reducible refine (kind_no_n _ _ _ _ A1 C1 _ _ HNN.out HX.out ((HR0.out.take _).up (by repeat (with_reducible first | exact HB | apply Up.alloc | apply Up.drewN | apply Up.drew)))).mono ?_); rintro e w' ⟨rfl, hb⟩; obtain ⟨hc, hf, hz⟩ := Up.cells hb; simp at hz)
          all_goals
            have hk : w'.heap[wr.heap.size]? = some (.cells #[.int .i64 (rd_GunKind ks i).f0, .slice (A1 i) (rd_GunKind ks i).f1.length (C1 i), .int .i64 (rd_GunKind ks i).f2, .int .i64 (rd_GunKind ks i).f3] 39 (0, 0)) := Up.blk hb (by repeat (first | exact blk_new wr _ | refine blk_drewN ?_ _ | refine blk_drew ?_ | refine blk_alloc ?_ _))
            have q1 : w'.cell? ⟨wr.heap.size, 1, none⟩ = some (.slice (A1 i) (rd_GunKind ks i).f1.length (C1 i)) := (blk_cell hk 1).trans rfl
            have q2 : ∀ o, (w'.alloc o).cell? ⟨wr.heap.size, 1, none⟩ = some (.slice (A1 i) (rd_GunKind ks i).f1.length (C1 i)) := fun o => (blk_cell (blk_alloc hk o) 1).trans rfl
            clear hc hf hz
            cases hf : fallB (rd_GunKind ks i).f1
            · have HF := Aside0.mk hf
              have HO := Aside0.mk (show kindE ks i = 1 by have := HX.out; simp [kindE, HT.out, hf]; omega)
              have HS := Aside0.mk (show 1 = r by have h := HS.out; rw [HE.out, HO.out] at h; simpa using h)
              clear hf
              go_wp2_with fail
              (with_reducible refine (falling_c _ _ _ _ _ HF.out (C_up (HR0.out.nest HI.out HL.out) (by have HU_ := (Up.step (by repeat (with_reducible first | exact HB | apply Up.alloc | apply Up.drewN | apply Up.drew)) hb : Up w w'); repeat (with_reducible first | exact HU_ | refine Up.set ?_ (by omega) | apply Up.alloc | apply Up.drewN | apply Up.drew)))).mono ?_)
              rintro e w2 ⟨rfl, hb2⟩
              have HU := Up.step (w := w) (by have HU_ := (Up.step (by repeat (with_reducible first | exact HB | apply Up.alloc | apply Up.drewN | apply Up.drew)) hb : Up w w'); repeat (with_reducible first | exact HU_ | refine Up.set ?_ (by omega) | apply Up.alloc | apply Up.drewN | apply Up.drew)) hb2
              go_wp2
              go_ret
              exact ⟨ret_i HS.out, HU⟩
            · have HF := Aside0.mk hf
              have HO := Aside0.mk (show kindE ks i = 0 by have := HX.out; simp [kindE, HT.out, hf]; omega)
              have HE := Aside0.mk (HE.out.trans (if_pos HO.out))
              clear hf
              go_wp2_with fail
              (with_reducible refine (falling_c _ _ _ _ _ HF.out (C_up (HR0.out.nest HI.out HL.out) (by have HU_ := (Up.step (by repeat (with_reducible first | exact HB | apply Up.alloc | apply Up.drewN | apply Up.drew)) hb : Up w w'); repeat (with_reducible first | exact HU_ | refine Up.set ?_ (by omega) | apply Up.alloc | apply Up.drewN | apply Up.drew)))).mono ?_)
              rintro e w2 ⟨rfl, hb2⟩
              have HU := Up.step (w := w) (by have HU_ := (Up.step (by repeat (with_reducible first | exact HB | apply Up.alloc | apply Up.drewN | apply Up.drew)) hb : Up w w'); repeat (with_reducible first | exact HU_ | refine Up.set ?_ (by omega) | apply Up.alloc | apply Up.drewN | apply Up.drew)) hb2
              go_wp2
              go_roundg (gk - 1)
              case measure => have := HL.out; have := HI.out; omega
              case rel => exact ⟨i + 1, (by first | rfl | (simp; done) | (have := HL.out; have := HI.out; have := HN.out; congr 1; unfold wrap64; omega)), by have := HI.out; omega, by have := HL.out; have := HI.out; omega, HE, HU⟩
        · have HX := Aside0.mk hx
          obtain ⟨j, hj⟩ : ∃ j, kindX (ks.take i.toNat) (rd_GunKind ks i).f0 = j := ⟨_, rfl⟩
          have HJ := Aside0.mk hj
          have HO := Aside0.mk (show kindE ks i = 7 by simp [kindE, HT.out, hx])
          have HS := Aside0.mk (show 7 = r by have h := HS.out; rw [HE.out, HO.out] at h; simpa using h)
          clear hx hj
          go_wp2_with (go_at_call 35; (with_reducible refine (in_q _ _ _ _).mono ?_); rintro e w' ⟨rfl, rfl⟩)
          go_region_with (go_at_call 36; (with_reducible refine (kind_yes_n _ _ _ _ A1 C1 _ j _ HNN.out HJ.out (by have := HX.out; rw [HJ.out] at this; exact this) ((HR0.out.take _).up (by repeat (with_reducible first | exact HB | apply Up.alloc | apply Up.drewN | apply Up.drew)))).mono ?_); rintro e w' ⟨rfl, hb⟩; obtain ⟨hc, hf, hz⟩ := Up.cells hb; simp at hz)
          all_goals
            go_wp2
            go_ret
            exact ⟨ret_i HS.out, (by have HU_ := (Up.step (by repeat (with_reducible first | exact HB | apply Up.alloc | apply Up.drewN | apply Up.drew)) hb : Up w w'); repeat (with_reducible first | exact HU_ | refine Up.set ?_ (by omega) | apply Up.alloc | apply Up.drewN | apply Up.drew))⟩
      all_goals
        have HO := Aside0.mk (show kindE ks i = 2 by simp [kindE, kindBad, *])
        have HS := Aside0.mk (show 2 = r by have h := HS.out; rw [HE.out, HO.out] at h; simpa using h)
        go_wp2_with (go_at_call 35; (with_reducible refine (in_q _ _ _ _).mono ?_); rintro e w' ⟨rfl, rfl⟩)
        go_ret
        exact ⟨ret_i HS.out, (by repeat (with_reducible first | exact HB | apply Up.alloc | apply Up.drewN | apply Up.drew))⟩
    · have hE : errF (kindE ks) (ks.length - (0 : Int).toNat) 0 = 0 := HE.out.trans (errF_end (by omega))
      have HS := Aside0.mk (show errF (gunE ks l) (l.length - (0 : Int).toNat) 0 = r by have h := HS.out; rwa [if_pos hE] at h)
      clear hE
      replace hlt := decide_eq_false hlt
      go_wp2
      clear HE HI hi hg
      go_loopg [61] (l.length) (fun gk v61 w' => ∃ i : Int, v61 = .int .i64 i ∧ 0 ≤ i ∧ l.length - i.toNat ≤ gk ∧ Aside0 (errF (gunE ks l) (l.length - i.toNat) i = r) ∧ Up w w')
      case atStart => exact ⟨0, rfl, by omega, by omega, HS, HB⟩
      case round =>
        clear HS HB hs0
        obtain ⟨i, rfl, hi, hg, HS, HB⟩ := hrel
        have HI := Aside0.mk hi
        have hs0 := HB.size
        by_cases hlt : i < l.length
        · have HS := Aside0.mk ((errF_step hi hlt).symm.trans HS.out)
          have HL := Aside0.mk hlt
          obtain ⟨bd, rfl⟩ : ∃ ad, B0 = some ad := by obtain ⟨ad, c, e, _⟩ := Kd.C_get HR1.out zGun i hi hlt; exact ⟨ad, e⟩
          obtain ⟨hx0, hx1, hx2, hx3, hx4, hx5, hx6, hx7⟩ := rx_Gun HR1.out
          have hlt2 := decide_eq_true hlt
          have hle : i ≤ (l.length : Int) := by omega
          have hlc : i ≤ (d0 : Int) := by have := HN.out; omega
          replace hi := eq_true hi; replace hlt := eq_true hlt; replace hle := eq_true hle; replace hlc := eq_true hlc
          cases t1 : inB (rd_Gun l i).f0 1 9999
          rotate_left
          cases t2 : inB (rd_Gun l i).f1 1 9999
          rotate_left
          cases t3 : inB (rd_Gun l i).f2 1 9999
          rotate_left
          cases t4 : inB (rd_Gun l i).f4 0 2
          rotate_left
          cases t5 : inB (rd_Gun l i).f5 0 20000000
          rotate_left
          cases t6 : inB (rd_Gun l i).f6 0 86400
          rotate_left
          cases t7 : inB (rd_Gun l i).f7 0 86400
          rotate_left
          · have HT := Aside0.mk (show gunBad (rd_Gun l i) = false by simp [gunBad, *])
            have hn : (l.take i.toNat).length = i.toNat := by have := HL.out; have := HI.out; simp; omega
            have HNN := Aside0.mk hn
            have HC := Aside0.mk (Kd.C_take HR1.out (show i.toNat ≤ l.length by have := HL.out; have := HI.out; omega))
            clear hn
            go_wp2_with (go_at_call 35; (with_reducible refine (in_q _ _ _ _).mono ?_); rintro e w' ⟨rfl, rfl⟩)
            cases hd : decide (0 ≤ gunX (l.take i.toNat) (rd_Gun l i).f0)
            · have HD := Aside0.mk hd
              have hdd := of_decide_eq_false hd
              rcases kindX_cases ks (rd_Gun l i).f3 with hx | hx
              · have HX := Aside0.mk hx
                have HO := Aside0.mk (show gunE ks l i = 8 by simp [gunE, HT.out, hdd]; omega)
                have HS := Aside0.mk (show 8 = r by have h := HS.out; rw [HO.out] at h; simpa using h)
                clear hx hd hdd
                (with_reducible refine (ahead_c _ _ _ _ _ _ _ false HNN.out HD.out (C_up HC.out (by repeat (with_reducible first | exact HB | apply Up.alloc | apply Up.drewN | apply Up.drew))) (by simp) (by simp)).mono ?_)
                rintro e w1 ⟨rfl, hb⟩
                have hk := Up.blk hb (blk_new wr _)
                have q3 : w1.cell? ⟨wr.heap.size, 3, none⟩ = some (.int .i64 (rd_Gun l i).f3) := (blk_cell hk 3).trans rfl
                have HB2 : Up w w1 := Up.step (by repeat (with_reducible first | exact HB | apply Up.alloc | apply Up.drewN | apply Up.drew)) hb
                clear hk
                go_wp2_with fail
                (with_reducible refine (kind_no _ _ _ A1 C1 _ _ HX.out (HR0.out.up HB2)).mono ?_)
                rintro e w2 ⟨rfl, hb2⟩
                have HB3 := HB2.step hb2
                go_wp2
                go_ret
                exact ⟨ret_i HS.out, (by repeat (with_reducible first | exact HB3 | apply Up.alloc | apply Up.drewN | apply Up.drew))⟩
              · obtain ⟨j, hj⟩ : ∃ j, kindX ks (rd_Gun l i).f3 = j := ⟨_, rfl⟩
                have HJ := Aside0.mk hj
                have HX := Aside0.mk (show 0 ≤ j by omega)
                have HO := Aside0.mk (show gunE ks l i = 0 by simp [gunE, HT.out, hdd]; omega)
                have HS := Aside0.mk ((if_pos HO.out).symm.trans HS.out)
                clear hx hd hdd hj
                (with_reducible refine (ahead_c _ _ _ _ _ _ _ false HNN.out HD.out (C_up HC.out (by repeat (with_reducible first | exact HB | apply Up.alloc | apply Up.drewN | apply Up.drew))) (by simp) (by simp)).mono ?_)
                rintro e w1 ⟨rfl, hb⟩
                have hk := Up.blk hb (blk_new wr _)
                have q3 : w1.cell? ⟨wr.heap.size, 3, none⟩ = some (.int .i64 (rd_Gun l i).f3) := (blk_cell hk 3).trans rfl
                have HB2 : Up w w1 := Up.step (by repeat (with_reducible first | exact HB | apply Up.alloc | apply Up.drewN | apply Up.drew)) hb
                clear hk
                go_wp2_with fail
                (with_reducible refine (kind_yes _ _ _ A1 C1 _ j _ HJ.out HX.out (HR0.out.up HB2)).mono ?_)
                rintro e w2 ⟨rfl, hb2⟩
                have HB3 := HB2.step hb2
                go_wp2
                go_roundg (gk - 1)
                case measure => have := HL.out; have := HI.out; omega
                case rel => exact ⟨i + 1, (by first | rfl | (simp; done) | (have := HL.out; have := HI.out; have := HN.out; congr 1; unfold wrap64; omega)), by have := HI.out; omega, by have := HL.out; have := HI.out; omega, HS, (by repeat (with_reducible first | exact HB3 | apply Up.alloc | apply Up.drewN | apply Up.drew))⟩
            · have HD := Aside0.mk hd
              have HO := Aside0.mk (show gunE ks l i = 7 by have := of_decide_eq_true hd; simp [gunE, HT.out, this])
              have HS := Aside0.mk (show 7 = r by have h := HS.out; rw [HO.out] at h; simpa using h)
              clear hd
              (with_reducible refine (ahead_c _ _ _ _ _ _ _ true HNN.out HD.out (C_up HC.out (by repeat (with_reducible first | exact HB | apply Up.alloc | apply Up.drewN | apply Up.drew))) (by simp) (by simp)).mono ?_)
              rintro e w1 ⟨rfl, hb⟩
              have HB2 : Up w w1 := Up.step (by repeat (with_reducible first | exact HB | apply Up.alloc | apply Up.drewN | apply Up.drew)) hb
              go_wp2
              go_ret
              exact ⟨ret_i HS.out, HB2⟩
          all_goals
            have HO := Aside0.mk (show gunE ks l i = 2 by simp [gunE, gunBad, *])
            have HS := Aside0.mk (show 2 = r by have h := HS.out; rw [HO.out] at h; simpa using h)
            go_wp2_with (go_at_call 35; (with_reducible refine (in_q _ _ _ _).mono ?_); rintro e w' ⟨rfl, rfl⟩)
            go_ret
            exact ⟨ret_i HS.out, (by repeat (with_reducible first | exact HB | apply Up.alloc | apply Up.drewN | apply Up.drew))⟩
        · have HS := Aside0.mk ((errF_end (by omega : (l.length : Int) ≤ i)).symm.trans HS.out)
          replace hlt := decide_eq_false hlt
          go_wp2
          go_ret
          exact ⟨ret_i HS.out, HB⟩

end Go.Proofs.Ytahcalhpigmbgaa.H
