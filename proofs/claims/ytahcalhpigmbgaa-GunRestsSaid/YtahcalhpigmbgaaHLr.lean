import Derived.Test.YtahcalhpigmbgaaHK
import Derived.Test.YtahcalhpigmbgaaHLa1
import Derived.Test.YtahcalhpigmbgaaHHd
namespace Go.Proofs.Ytahcalhpigmbgaa.H
open Go.RowKit Go.Proofs.YtahcalhpigmbgaaW.PrintWords Go.Proofs.YtahcalhpigmbgaaW.PrintLast Go.Proofs.YtahcalhpigmbgaaW.PrintMore
set_option linter.unusedVariables false
set_option linter.unusedSimpArgs false
/-! GunRights -/
set_option maxHeartbeats 8000000 in
set_option maxRecDepth 100000 in
theorem GunRights_c (A0 : Option Addr) (c0 : Nat) (ks : List SGunKind) (A1 : Int → Option Addr) (C1 : Int → Nat) (B0 : Option Addr) (d0 : Nat) (l : List SGun) (w : World) (hr0 : RdGK w A0 ks A1 C1) (hk0 : ks.length ≤ c0) (hr1 : Kd.C kGun w B0 l.length l) (hd0 : l.length ≤ d0) :
    Calls Try.prog 3 #[.agg #[.slice A0 ks.length c0, .slice B0 l.length d0]] w fun e w' => e = .returned (.bool true) ∧ Up w w' := by
  have hu := Try.underlying25
  have HB := Up.refl w
  have HR0 := Aside0.mk hr0
  have HR1 := Aside0.mk hr1
  obtain ⟨b, hb⟩ : ∃ b, fewS ks l = b := ⟨_, rfl⟩
  obtain ⟨r, hr⟩ : ∃ r, rightS ks l = r := ⟨_, rfl⟩
  have HF := Aside0.mk hb
  have HS := Aside0.mk hr
  have H0 := Aside0.mk hk0
  have H1 := Aside0.mk hd0
  clear hb hr hr0 hr1 hk0 hd0
  go_enter Try.func3, Try.ntmps3
  go_wp2_with fail
  (with_reducible refine (alive_c _).mono ?_)
  rintro e w1 ⟨rfl, hb⟩
  have hk := Up.blk hb (blk_new w _)
  have HB := Up.step (HB.alloc _) hb
  clear hb
  go_upto_region 3 with (fail)
  have k0 : ∀ W, Up w1 W → W.cell? ⟨w.heap.size, 0, none⟩ = some (.slice A0 ks.length c0) := fun W u => (blk_cell (Up.blk u hk) 0).trans rfl
  have k1 : ∀ W, Up w1 W → W.cell? ⟨w.heap.size, 1, none⟩ = some (.slice B0 l.length d0) := fun W u => (blk_cell (Up.blk u hk) 1).trans rfl
  have HR0 := Aside0.mk (HR0.out.up HB)
  have HR1 := Aside0.mk (C_up HR1.out HB)
  have HBW := Aside0.mk HB
  clear HB hk
  generalize w.heap.size = g at k0 k1 ⊢
  have HB := Up.refl w1
  have K0 := Aside0.mk k0
  have K1 := Aside0.mk k1
  have k0n := k0 _ HB
  have k1n := k1 _ HB
  clear k0 k1
  cases b
  · have hU := (Up.refl w1).drew
    refine wp_region_held_drew (S := fun w' => Up w1 w' ∧ w'.cell? ⟨g, 0, none⟩ = some (.slice A0 ks.length c0) ∧ w'.cell? ⟨g, 1, none⟩ = some (.slice B0 l.length d0)) (by kernel_rfl) (⟨hU, K0.out _ hU, K1.out _ hU⟩) (fun hHeld => ?_)
    clear hU
    (refine take_on 0 5 (v := ?_) rfl rfl (by kernel_rfl) (by kernel_rfl) (by kernel_rfl) (fun _ _ _ h => h) (by kernel_rfl) ?_ hHeld ?_; (rotate_left; (intro w hSw; (try dsimp only at hSw); go_simp; (try with_reducible rfl))); (try simp only [Act.put, List.setIfInBounds_toArray, List.set_cons_zero, List.set_cons_succ]))
    (refine wpAnyH_ready (rs := [1]) (by kernel_rfl) (by simp) ?_; refine AllReadyH.cons rfl (fun K hK => ?_) AllReadyH.nil; (go_simp; (refine (few_c A0 c0 ks A1 C1 B0 d0 l false _ HF.out (HR0.out.up hHeld.1)).mono ?_); rintro e w' ⟨rfl, hb⟩; have hU := Up.step hHeld.1 hb; clear hb); refine hK.out _ _ (⟨hU, K0.out _ hU, K1.out _ hU⟩) (fun hHeld => ?_); clear hK K; (try simp only [Act.put, List.setIfInBounds_toArray, List.set_cons_zero, List.set_cons_succ]))
    (refine take_on 2 7 (v := ?_) rfl rfl (by kernel_rfl) (by kernel_rfl) (by kernel_rfl) (fun _ _ _ h => h) (by kernel_rfl) ?_ hHeld ?_; (rotate_left; (intro w hSw; (try dsimp only at hSw); go_simp; (try with_reducible rfl))); (try simp only [Act.put, List.setIfInBounds_toArray, List.set_cons_zero, List.set_cons_succ])); (refine take_on 3 8 (v := ?_) rfl rfl (by kernel_rfl) (by kernel_rfl) (by kernel_rfl) (fun _ _ _ h => h) (by kernel_rfl) ?_ hHeld ?_; (rotate_left; (intro w hSw; (try dsimp only at hSw); go_simp; (try with_reducible rfl))); (try simp only [Act.put, List.setIfInBounds_toArray, List.set_cons_zero, List.set_cons_succ]))
    (refine take_off 4 9 rfl rfl (by kernel_rfl) (by kernel_rfl) (by kernel_rfl) (fun _ _ _ h => h) (by kernel_rfl) hHeld ?_; (try simp only [Act.put, List.setIfInBounds_toArray, List.set_cons_zero, List.set_cons_succ])); (refine take_off 5 10 rfl rfl (by kernel_rfl) (by kernel_rfl) (by kernel_rfl) (fun _ _ _ h => h) (by kernel_rfl) hHeld ?_; (try simp only [Act.put, List.setIfInBounds_toArray, List.set_cons_zero, List.set_cons_succ])); (refine take_off 6 11 rfl rfl (by kernel_rfl) (by kernel_rfl) (by kernel_rfl) (fun _ _ _ h => h) (by kernel_rfl) hHeld ?_; (try simp only [Act.put, List.setIfInBounds_toArray, List.set_cons_zero, List.set_cons_succ])); (refine take_off 7 12 rfl rfl (by kernel_rfl) (by kernel_rfl) (by kernel_rfl) (fun _ _ _ h => h) (by kernel_rfl) hHeld ?_; (try simp only [Act.put, List.setIfInBounds_toArray, List.set_cons_zero, List.set_cons_succ])); (refine take_off 8 13 rfl rfl (by kernel_rfl) (by kernel_rfl) (by kernel_rfl) (fun _ _ _ h => h) (by kernel_rfl) hHeld ?_; (try simp only [Act.put, List.setIfInBounds_toArray, List.set_cons_zero, List.set_cons_succ])); (refine take_off 9 14 rfl rfl (by kernel_rfl) (by kernel_rfl) (by kernel_rfl) (fun _ _ _ h => h) (by kernel_rfl) hHeld ?_; (try simp only [Act.put, List.setIfInBounds_toArray, List.set_cons_zero, List.set_cons_succ])); (refine take_off 10 15 rfl rfl (by kernel_rfl) (by kernel_rfl) (by kernel_rfl) (fun _ _ _ h => h) (by kernel_rfl) hHeld ?_; (try simp only [Act.put, List.setIfInBounds_toArray, List.set_cons_zero, List.set_cons_succ])); (refine take_off 11 16 rfl rfl (by kernel_rfl) (by kernel_rfl) (by kernel_rfl) (fun _ _ _ h => h) (by kernel_rfl) hHeld ?_; (try simp only [Act.put, List.setIfInBounds_toArray, List.set_cons_zero, List.set_cons_succ])); (refine take_off 12 17 rfl rfl (by kernel_rfl) (by kernel_rfl) (by kernel_rfl) (fun _ _ _ h => h) (by kernel_rfl) hHeld ?_; (try simp only [Act.put, List.setIfInBounds_toArray, List.set_cons_zero, List.set_cons_succ])); (refine take_off 13 18 rfl rfl (by kernel_rfl) (by kernel_rfl) (by kernel_rfl) (fun _ _ _ h => h) (by kernel_rfl) hHeld ?_; (try simp only [Act.put, List.setIfInBounds_toArray, List.set_cons_zero, List.set_cons_succ])); (refine take_off 14 19 rfl rfl (by kernel_rfl) (by kernel_rfl) (by kernel_rfl) (fun _ _ _ h => h) (by kernel_rfl) hHeld ?_; (try simp only [Act.put, List.setIfInBounds_toArray, List.set_cons_zero, List.set_cons_succ]))
    (refine take_on 15 20 (v := ?_) rfl rfl (by kernel_rfl) (by kernel_rfl) (by kernel_rfl) (fun _ _ _ h => h) (by kernel_rfl) ?_ hHeld ?_; (rotate_left; (intro w hSw; (try dsimp only at hSw); go_simp; (try with_reducible rfl))); (try simp only [Act.put, List.setIfInBounds_toArray, List.set_cons_zero, List.set_cons_succ])); (refine take_on 16 2 (v := ?_) rfl rfl (by kernel_rfl) (by kernel_rfl) (by kernel_rfl) (fun _ _ _ h => h) (by kernel_rfl) ?_ hHeld ?_; (rotate_left; (intro w hSw; (try dsimp only at hSw); go_simp; (try with_reducible rfl))); (try simp only [Act.put, List.setIfInBounds_toArray, List.set_cons_zero, List.set_cons_succ]))
    refine wpAnyH_done (by kernel_rfl) ?_ _
    have HZ := Aside0.mk hHeld.1
    clear hHeld
    go_wp2
    go_ret
    exact ⟨rfl, Up.step HBW.out HZ.out⟩
  · first | (go_region_held3 (fun w' => Up w1 w' ∧ w'.cell? ⟨g, 0, none⟩ = some (.slice A0 ks.length c0) ∧ w'.cell? ⟨g, 1, none⟩ = some (.slice B0 l.length d0)) (first | (have hU_ := (Up.refl w1).drew; exact ⟨hU_, K0.out _ hU_, K1.out _ hU_⟩) | (have hU_ : Up w1 _ := (by assumption); exact ⟨hU_, K0.out _ hU_, K1.out _ hU_⟩)) (first | (go_at_call 10; (refine (few_c A0 c0 ks A1 C1 B0 d0 l true _ HF.out (HR0.out.up ?_)).mono ?_); (first | assumption | exact (Up.refl w1).drew); rintro e w' ⟨rfl, hb⟩; have hU := Up.step (w := w1) (by first | assumption | exact (Up.refl w1).drew) hb; clear hb) | (go_at_call 11; (refine (Right_c A0 c0 ks A1 C1 B0 d0 l _ r HS.out (HR0.out.up ?_) H0.out (C_up HR1.out ?_) H1.out).mono ?_); (first | assumption | exact (Up.refl w1).drew); (first | assumption | exact (Up.refl w1).drew); rintro e w' ⟨rfl, hb⟩; have hU := Up.step (w := w1) (by first | assumption | exact (Up.refl w1).drew) hb; clear hb) | (go_at_call 12; (refine (RightR_c A0 c0 ks A1 C1 B0 d0 l _ r HS.out (HR0.out.up ?_) (C_up HR1.out ?_)).mono ?_); (first | assumption | exact (Up.refl w1).drew); (first | assumption | exact (Up.refl w1).drew); rintro e w' ⟨rfl, hb⟩; have hU := Up.step (w := w1) (by first | assumption | exact (Up.refl w1).drew) hb; clear hb))) | fail
    all_goals
      have HZ := Aside0.mk (show Up w1 _ by assumption)
      go_wp2
      go_ret
      exact ⟨rfl, Up.step HBW.out HZ.out⟩

end Go.Proofs.Ytahcalhpigmbgaa.H
