import Derived.Test.YtcnamihkghiigaaHK
import Derived.Test.YtcnamihkghiigaaHS3
namespace Go.Proofs.Ytcnamihkghiigaa.H
open Go.RowKit Go.Proofs.YtcnamihkghiigaaW.PrintWords Go.Proofs.YtcnamihkghiigaaW.PrintLast Go.Proofs.YtcnamihkghiigaaW.PrintMore
set_option linter.unusedVariables false
set_option linter.unusedSimpArgs false
/-! SurfaceOthers: what Groom and Descend leave -/
attribute [local go_sem high] eqA32
/-- What a change of one run's surface leaves: g keeps the time of grooming too. -/
abbrev keepS (l a : List SSurface) (run : Int) (g : Bool) : Prop :=
  a.length = l.length ∧ surR a = 0 ∧ ∀ i : Int, 0 ≤ i → i < l.length → (rd_Surface a i).f0 = (rd_Surface l i).f0 ∧ (g = true → (rd_Surface a i).f1 = (rd_Surface l i).f1) ∧ ((rd_Surface l i).f0 ≠ run → rd_Surface a i = rd_Surface l i)
theorem keep_set {l : List SSurface} {run i : Int} {x : SSurface} {g : Bool} (h : surR l = 0) (hi : surX l run = i) (h0 : 0 ≤ i) (hx : x.f0 = run) (h3 : -1 ≤ x.f1 ∧ x.f1 ≤ 20000000) (h4 : 0 ≤ x.f2 ∧ x.f2 ≤ 1000000) (hg : g = true → x.f1 = (rd_Surface l i).f1) : keepS l (l.set i.toNat x) run g := by
  obtain ⟨h1, h2⟩ := surX_lt hi h0
  refine ⟨List.length_set, surR_set h h0 h1 (hx.trans h2.symm) h3 h4, fun k hk0 hk1 => ?_⟩
  rw [rd_set2 h0 h1 hk0]
  split
  · rename_i e
    exact ⟨by rw [e, hx, h2], fun hg1 => by rw [e]; exact hg hg1, fun hne => absurd (by rw [e, h2]) hne⟩
  · exact ⟨rfl, fun _ => rfl, fun _ => rfl⟩
theorem groom_keep {l a : List SSurface} {run t e : Int} (h : surR l = 0) (hg : groomS l run t = (a, e)) : (e ≠ 0 ∧ a = []) ∨ (e = 0 ∧ keepS l a run false) := by
  unfold groomS at hg
  split at hg
  · obtain ⟨rfl, rfl⟩ := Prod.mk.inj hg; exact .inl ⟨by decide, rfl⟩
  · rename_i hx
    split at hg
    · obtain ⟨rfl, rfl⟩ := Prod.mk.inj hg; exact .inl ⟨by decide, rfl⟩
    · obtain ⟨rfl, rfl⟩ := Prod.mk.inj hg
      exact .inr ⟨rfl, keep_set h rfl (by omega) rfl ⟨by simp only; omega, by simp only; omega⟩ ⟨by simp only; omega, by simp only; omega⟩ (fun hh => by cases hh)⟩
theorem desc_keep {l a : List SSurface} {run t e : Int} (h : surR l = 0) (hg : descS l run t = (a, e)) : (e ≠ 0 ∧ a = []) ∨ (e = 0 ∧ keepS l a run true) := by
  unfold descS at hg
  split at hg
  · obtain ⟨rfl, rfl⟩ := Prod.mk.inj hg; exact .inl ⟨by decide, rfl⟩
  · rename_i hx
    split at hg
    · obtain ⟨rfl, rfl⟩ := Prod.mk.inj hg; exact .inl ⟨by decide, rfl⟩
    · obtain ⟨rfl, rfl⟩ := Prod.mk.inj hg
      obtain ⟨h1, h2⟩ := surX_lt (l := l) (run := run) rfl (by omega)
      have hr := surR_at h (by omega) h1
      exact .inr ⟨rfl, keep_set h rfl (by omega) rfl ⟨by simp only; omega, by simp only; omega⟩ ⟨by simp only; unfold minT wrap64; split <;> omega, by simp only; unfold minT; split <;> omega⟩ (fun _ => rfl)⟩

end Go.Proofs.Ytcnamihkghiigaa.H
