import Derived.Test.YtcnamihkghiigaaHK
import Derived.Test.YtcnamihkghiigaaHRs
namespace Go.Proofs.Ytcnamihkghiigaa.H
open Go.RowKit Go.Proofs.YtcnamihkghiigaaW.PrintWords Go.Proofs.YtcnamihkghiigaaW.PrintLast Go.Proofs.YtcnamihkghiigaaW.PrintMore
set_option linter.unusedVariables false
set_option linter.unusedSimpArgs false
/-! surface.Groom -/
set_option maxHeartbeats 8000000 in
theorem Groom_c (A0 : Option Addr) (c0 : Nat) (l : List SSurface) (run t : Int) (w : World) (R : List SSurface) (e : Int) (h : groomS l run t = (R, e)) (hn : l.length ≤ 1000) (hr0 : Kd.C kSurface w A0 l.length l) :
    Calls Try.prog 14 #[.slice A0 l.length c0, .int .i64 run, .int .i64 t] w fun en w' => ∃ v, en = .returned (.tuple #[v, .int .i64 e]) ∧ Kd.R kSurface 32 w' w.heap.size (fun _ => True) v R ∧ Up w w' := by
  have hu := Try.underlying32
  have HR := Aside0.mk hr0
  have HN := Aside0.mk hn
  obtain ⟨i, hi⟩ : ∃ i, surX l run = i := ⟨_, rfl⟩
  have HX := Aside0.mk hi
  rw [groomS, hi] at h
  have HS := Aside0.mk h
  have HB := Up.refl w
  clear hr0 hn h hi
  go_enter Try.func14, Try.ntmps14
  go_wp2_with fail
  (with_reducible refine (surFind_c A0 c0 l run _ i HX.out (C_up HR.out HB)).mono ?_)
  rintro en w1 ⟨rfl, hb⟩
  have HR := Aside0.mk (C_up HR.out hb)
  have HU := Aside0.mk (Up.step HB hb)
  clear HB hb
  by_cases t1 : i < 0
  · have hs := (if_pos t1).symm.trans HS.out
    simp only [Prod.mk.injEq] at hs
    obtain ⟨rfl, rfl⟩ := hs
    replace t1 := decide_eq_true t1
    go_wp2
    exact bodyPost_ret (v := .tuple #[.slice none 0 0, .int .i64 8]) (by simp [results, Try.results14, go_sem]) rfl ⟨_, rfl, Kd.R_nil _ _ _ _ _, HU.out⟩
  have HS := Aside0.mk ((if_neg t1).symm.trans HS.out)
  have h0 : 0 ≤ i := by omega
  have hlt := (surX_lt HX.out h0).1
  have HI := Aside0.mk h0
  have HL := Aside0.mk hlt
  obtain ⟨ad, rfl⟩ : ∃ ad, A0 = some ad := by obtain ⟨ad, c, e, _⟩ := Kd.C_get HR.out zSurface i h0 hlt; exact ⟨ad, e⟩
  obtain ⟨hx0, hx1, hx2⟩ := rx_Surface HR.out
  have HB := Up.refl w1
  replace h0 := eq_true h0; replace hlt := eq_true hlt
  replace t1 := decide_eq_false t1
  by_cases t3 : t < 0
  rotate_left
  by_cases t2 : t < (rd_Surface l i).f1
  rotate_left
  by_cases t4 : 20000000 < t
  rotate_left
  · have hs := (if_neg (show ¬ (t < 0 ∨ t < (rd_Surface l i).f1 ∨ 20000000 < t) by omega)).symm.trans HS.out
    simp only [Prod.mk.injEq] at hs
    obtain ⟨hq, rfl⟩ := hs
    have HQ := Aside0.mk hq
    clear hq
    replace t2 := decide_eq_false t2; replace t3 := decide_eq_false t3; replace t4 := decide_eq_false t4
    go_wp2_with fail
    (with_reducible refine (CloneSurface_c (some ad) c0 l _ HN.out (C_up HR.out (by repeat (with_reducible first | exact HB | apply Up.alloc | apply Up.drewN | apply Up.drew)))).mono ?_)
    rintro en w2 ⟨v, rfl, hR, hb⟩
    obtain ⟨g, cap, rfl, hg0, hg1, cells, hcell⟩ := Kd.R_form hR (by have := HL.out; have := HI.out; omega)
    have HG := Aside0.mk hg0
    have HR2 := Aside0.mk hR
    have HU2 := Aside0.mk (Up.step HU.out hb)
    obtain ⟨c0, c1, c2, cf⟩ := rowSur hR (i := i) HI.out HL.out
    have f1 := cf 1
    have f2 := cf 2
    clear hR hb hcell cf hx0 hx1 hx2 HB hg0
    go_wp2
    have hX := (surX_lt HX.out HI.out).2
    have h1 := setSur1 HR2.out HI.out HL.out t
    have h2 := setSur2 h1 HI.out HL.out 0
    rw [rd_set HI.out (by have := HL.out; omega), List.set_set] at h2
    simp only [hX] at h2
    rw [HQ.out] at h2
    have hGG := Nat.le_trans HU.out.size HG.out
    exact bodyPost_ret (v := .tuple #[.slice (some ⟨g, 0, none⟩) l.length cap, .int .i64 0]) (by simp [results, Try.results14, go_sem]) rfl ⟨_, rfl, Kd.R_lower h2 HU.out.size, (HU2.out.set hGG).set hGG⟩
  all_goals
    have hs := (if_pos (show (t < 0 ∨ t < (rd_Surface l i).f1 ∨ 20000000 < t) by omega)).symm.trans HS.out
    simp only [Prod.mk.injEq] at hs
    obtain ⟨rfl, rfl⟩ := hs
    (first | replace t2 := decide_eq_false t2 | replace t2 := decide_eq_true t2 | skip); (first | replace t3 := decide_eq_false t3 | replace t3 := decide_eq_true t3 | skip); (first | replace t4 := decide_eq_false t4 | replace t4 := decide_eq_true t4 | skip)
    go_wp2; repeat (go_quiet (fail); try go_wp2)
    exact bodyPost_ret (v := .tuple #[.slice none 0 0, .int .i64 11]) (by simp [results, Try.results14, go_sem]) rfl ⟨_, rfl, Kd.R_nil _ _ _ _ _, (by have HU_ := HU.out; repeat (with_reducible first | exact HU_ | refine Up.set ?_ (by omega) | apply Up.alloc | apply Up.drewN | apply Up.drew))⟩

end Go.Proofs.Ytcnamihkghiigaa.H
