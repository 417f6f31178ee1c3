import Derived.Test.YtcnamihkghiigaaHK
import Derived.Test.YtcnamihkghiigaaHSg2
namespace Go.Proofs.Ytcnamihkghiigaa.H
open Go.RowKit Go.Proofs.YtcnamihkghiigaaW.PrintWords Go.Proofs.YtcnamihkghiigaaW.PrintLast Go.Proofs.YtcnamihkghiigaaW.PrintMore
set_option linter.unusedVariables false
set_option linter.unusedSimpArgs false
/-! Descend of both -/
def minT (s : Int) : Int := if s < 1000000 then s else 1000000
def descS (l : List SSurface) (run t : Int) : List SSurface × Int := if surX l run < 0 then ([], 8) else if (t < 0 ∨ 10000 < t) then ([], 2) else (l.set (surX l run).toNat ⟨run, (rd_Surface l (surX l run)).f1, minT (wrap64 ((rd_Surface l (surX l run)).f2 + t))⟩, 0)
set_option maxHeartbeats 8000000 in
theorem Descend_c (A0 : Option Addr) (c0 : Nat) (l : List SSurface) (run t : Int) (w : World) (R : List SSurface) (e : Int) (h : descS l run t = (R, e)) (hn : l.length ≤ 1000) (hr0 : Kd.C kSurface w A0 l.length l) :
    Calls Try.prog 17 #[.slice A0 l.length c0, .int .i64 run, .int .i64 t] w fun en w' => ∃ v, en = .returned (.tuple #[v, .int .i64 e]) ∧ Kd.R kSurface 32 w' w.heap.size (fun _ => True) v R ∧ Up w w' := by
  have hu := Try.underlying32
  have HR := Aside0.mk hr0
  have HN := Aside0.mk hn
  obtain ⟨i, hi⟩ : ∃ i, surX l run = i := ⟨_, rfl⟩
  have HX := Aside0.mk hi
  rw [descS, hi] at h
  have HS := Aside0.mk h
  have HB := Up.refl w
  clear hr0 hn h hi
  go_enter Try.func17, Try.ntmps17
  go_wp2_with fail
  (with_reducible refine (surFind_c A0 c0 l run _ i HX.out (C_up HR.out HB)).mono ?_)
  rintro en w1 ⟨rfl, hb⟩
  have HR := Aside0.mk (C_up HR.out hb)
  have HU := Aside0.mk (Up.step HB hb)
  clear HB hb
  by_cases t1 : i < 0
  · have hs := (if_pos t1).symm.trans HS.out
    simp only [Prod.mk.injEq] at hs
    obtain ⟨rfl, rfl⟩ := hs
    replace t1 := decide_eq_true t1
    go_wp2
    exact bodyPost_ret (v := .tuple #[.slice none 0 0, .int .i64 8]) (by simp [results, Try.results17, go_sem]) rfl ⟨_, rfl, Kd.R_nil _ _ _ _ _, HU.out⟩
  have HS := Aside0.mk ((if_neg t1).symm.trans HS.out)
  have h0 : 0 ≤ i := by omega
  have hlt := (surX_lt HX.out h0).1
  have HI := Aside0.mk h0
  have HL := Aside0.mk hlt
  obtain ⟨ad, rfl⟩ : ∃ ad, A0 = some ad := by obtain ⟨ad, c, e, _⟩ := Kd.C_get HR.out zSurface i h0 hlt; exact ⟨ad, e⟩
  obtain ⟨hx0, hx1, hx2⟩ := rx_Surface HR.out
  have HB := Up.refl w1
  replace h0 := eq_true h0; replace hlt := eq_true hlt
  replace t1 := decide_eq_false t1
  by_cases t3 : t < 0
  rotate_left
  by_cases t4 : 10000 < t
  rotate_left
  · have hs := (if_neg (show ¬ (t < 0 ∨ 10000 < t) by omega)).symm.trans HS.out
    simp only [Prod.mk.injEq] at hs
    obtain ⟨hq, rfl⟩ := hs
    have HQ := Aside0.mk hq
    clear hq
    replace t3 := decide_eq_false t3; replace t4 := decide_eq_false t4
    go_wp2_with fail
    (with_reducible refine (CloneSurface_c (some ad) c0 l _ HN.out (C_up HR.out (by repeat (with_reducible first | exact HB | apply Up.alloc | apply Up.drewN | apply Up.drew)))).mono ?_)
    rintro en w2 ⟨v, rfl, hR, hb⟩
    obtain ⟨g, cap, rfl, hg0, hg1, cells, hcell⟩ := Kd.R_form hR (by have := HL.out; have := HI.out; omega)
    have HG := Aside0.mk hg0
    have HR2 := Aside0.mk hR
    have HU2 := Aside0.mk (Up.step HU.out hb)
    obtain ⟨c0, c1, c2, cf⟩ := rowSur hR (i := i) HI.out HL.out
    have f2 := cf 2
    have HW2 := HQ.out
    clear hR hb hcell cf hx0 hx1 hx2 HB hg0
    obtain ⟨s, hs⟩ : ∃ s, wrap64 ((rd_Surface l i).f2 + t) = s := ⟨_, rfl⟩
    rw [hs] at HW2
    have HS2 := Aside0.mk hs
    have HQ2 := Aside0.mk HW2
    clear HW2
    have hsn : wrap64 ((rd_Surface l i).f2 + t) = s := hs
    have hsk : IntKind.i64.wrap ((rd_Surface l i).f2 + t) = s := (i64_w _).trans hs
    clear hs
    go_wp2
    all_goals
      have T5 := Aside0.mk h
      have hX := (surX_lt HX.out HI.out).2
      have HQ3 := HQ2.out
      (first | rw [show minT s = s from if_pos (by have := T5.out; omega)] at HQ3 | rw [show minT s = 1000000 from if_neg (by have := T5.out; omega)] at HQ3)
      have h2 := setSur2 HR2.out HI.out HL.out (if s < 1000000 then s else 1000000)
      (first | rw [if_pos (show s < 1000000 by have := T5.out; omega)] at h2 | rw [if_neg (show ¬ s < 1000000 by have := T5.out; omega)] at h2)
      simp only [hX] at h2
      rw [HQ3] at h2
      have hGG := Nat.le_trans HU.out.size HG.out
      exact bodyPost_ret (v := .tuple #[.slice (some ⟨g, 0, none⟩) l.length cap, .int .i64 0]) (by simp [results, Try.results17, go_sem]) rfl ⟨_, rfl, Kd.R_lower h2 HU.out.size, HU2.out.set hGG⟩
  all_goals
    have hs := (if_pos (show (t < 0 ∨ 10000 < t) by omega)).symm.trans HS.out
    simp only [Prod.mk.injEq] at hs
    obtain ⟨rfl, rfl⟩ := hs
    (first | replace t3 := decide_eq_false t3 | replace t3 := decide_eq_true t3 | skip); (first | replace t4 := decide_eq_false t4 | replace t4 := decide_eq_true t4 | skip)
    go_wp2; repeat (go_quiet (fail); try go_wp2)
    exact bodyPost_ret (v := .tuple #[.slice none 0 0, .int .i64 2]) (by simp [results, Try.results17, go_sem]) rfl ⟨_, rfl, Kd.R_nil _ _ _ _ _, (by have HU_ := HU.out; repeat (with_reducible first | exact HU_ | refine Up.set ?_ (by omega) | apply Up.alloc | apply Up.drewN | apply Up.drew))⟩
set_option maxHeartbeats 8000000 in
theorem DescendR_c (A0 : Option Addr) (c0 : Nat) (l : List SSurface) (run t : Int) (w : World) (R : List SSurface) (e : Int) (h : descS l run t = (R, e)) (hn : l.length ≤ 1000) (hr0 : Kd.C kSurface w A0 l.length l) :
    Calls Try.prog 18 #[.slice A0 l.length c0, .int .i64 run, .int .i64 t] w fun en w' => ∃ v, en = .returned (.tuple #[v, .int .i64 e]) ∧ Kd.R kSurface 32 w' w.heap.size (fun _ => True) v R ∧ Up w w' := by
  have hu := Try.underlying32
  have HR := Aside0.mk hr0
  have HN := Aside0.mk hn
  obtain ⟨i, hi⟩ : ∃ i, surX l run = i := ⟨_, rfl⟩
  have HX := Aside0.mk hi
  rw [descS, hi] at h
  have HS := Aside0.mk h
  have HB := Up.refl w
  clear hr0 hn h hi
  go_enter Try.func18, Try.ntmps18
  go_wp2_with fail
  (with_reducible refine (surIndex_c A0 c0 l run _ i HX.out (C_up HR.out HB)).mono ?_)
  rintro en w1 ⟨rfl, hb⟩
  have HR := Aside0.mk (C_up HR.out hb)
  have HU := Aside0.mk (Up.step HB hb)
  clear HB hb
  by_cases t1 : i < 0
  · have hs := (if_pos t1).symm.trans HS.out
    simp only [Prod.mk.injEq] at hs
    obtain ⟨rfl, rfl⟩ := hs
    replace t1 := decide_eq_true t1
    go_wp2
    exact bodyPost_ret (v := .tuple #[.slice none 0 0, .int .i64 8]) (by simp [results, Try.results18, go_sem]) rfl ⟨_, rfl, Kd.R_nil _ _ _ _ _, HU.out⟩
  have HS := Aside0.mk ((if_neg t1).symm.trans HS.out)
  have h0 : 0 ≤ i := by omega
  have hlt := (surX_lt HX.out h0).1
  have HI := Aside0.mk h0
  have HL := Aside0.mk hlt
  obtain ⟨ad, rfl⟩ : ∃ ad, A0 = some ad := by obtain ⟨ad, c, e, _⟩ := Kd.C_get HR.out zSurface i h0 hlt; exact ⟨ad, e⟩
  obtain ⟨hx0, hx1, hx2⟩ := rx_Surface HR.out
  have HB := Up.refl w1
  replace h0 := eq_true h0; replace hlt := eq_true hlt
  replace t1 := decide_eq_false t1
  by_cases t3 : t < 0
  rotate_left
  by_cases t4 : 10000 < t
  rotate_left
  · have hs := (if_neg (show ¬ (t < 0 ∨ 10000 < t) by omega)).symm.trans HS.out
    simp only [Prod.mk.injEq] at hs
    obtain ⟨hq, rfl⟩ := hs
    have HQ := Aside0.mk hq
    clear hq
    replace t3 := decide_eq_false t3; replace t4 := decide_eq_false t4
    obtain ⟨s, hs⟩ : ∃ s, wrap64 ((rd_Surface l i).f2 + t) = s := ⟨_, rfl⟩
    have HW2 := HQ.out
    rw [hs] at HW2
    have HQ2 := Aside0.mk HW2
    clear HW2
    have hsk : IntKind.i64.wrap ((rd_Surface l i).f2 + t) = s := (i64_w _).trans hs
    obtain ⟨mv, hm⟩ : ∃ mv, minT s = mv := ⟨_, rfl⟩
    have hmi : (if 1000000 < s then 1000000 else s) = mv := by rw [← hm]; unfold minT; split <;> split <;> omega
    rw [hm] at HQ2
    clear hm
    have X1 := Aside0.mk (fun W u => hx1 W i u HI.out HL.out)
    have X2 := Aside0.mk (fun W u => hx2 W i u HI.out HL.out)
    clear hx0 hx1 hx2
    go_upto_region 6 with (fail)
    first | (go_region_held3 (fun w' => Up w1 w' ∧ w'.cell? ⟨(ad.add (i.toNat * 3)).block, (ad.add (i.toNat * 3)).off + 1, none⟩ = some (.int .i64 (rd_Surface l i).f1) ∧ w'.cell? ⟨(ad.add (i.toNat * 3)).block, (ad.add (i.toNat * 3)).off + 2, none⟩ = some (.int .i64 (rd_Surface l i).f2)) (first | (have hU_ := (Up.refl w1).drew; exact ⟨hU_, X1.out _ hU_, X2.out _ hU_⟩) | (have hU_ : Up w1 _ := (by assumption); exact ⟨hU_, X1.out _ hU_, X2.out _ hU_⟩)) (first | (go_at_call 27; (refine (with_c (some ad) c0 l i run (rd_Surface l i).f1 mv _ R HQ2.out HI.out HN.out (C_up HR.out ?_)).mono ?_); (first | assumption | exact (Up.refl w1).drew); rintro e w' ⟨v, rfl, hR, hb⟩; have hU := Up.step (w := w1) (by first | assumption | exact (Up.refl w1).drew) hb; have HO := Aside0.mk (Kd.R_lower hR (Up.refl w1).drew.size); clear hb hR))) | fail
    all_goals
      have HZ := Aside0.mk (show Up w1 _ by assumption)
      have HOO := Aside0.mk (Kd.R_lower HO.out HU.out.size)
      go_wp2
      exact bodyPost_ret (v := .tuple #[v, .int .i64 0]) (by simp [results, Try.results18, go_sem]) rfl ⟨_, rfl, HOO.out, Up.step HU.out HZ.out⟩
  all_goals
    have hs := (if_pos (show (t < 0 ∨ 10000 < t) by omega)).symm.trans HS.out
    simp only [Prod.mk.injEq] at hs
    obtain ⟨rfl, rfl⟩ := hs
    (first | replace t3 := decide_eq_false t3 | replace t3 := decide_eq_true t3 | skip); (first | replace t4 := decide_eq_false t4 | replace t4 := decide_eq_true t4 | skip)
    go_wp2; repeat (go_quiet (fail); try go_wp2)
    exact bodyPost_ret (v := .tuple #[.slice none 0 0, .int .i64 2]) (by simp [results, Try.results18, go_sem]) rfl ⟨_, rfl, Kd.R_nil _ _ _ _ _, HU.out⟩

end Go.Proofs.Ytcnamihkghiigaa.H
