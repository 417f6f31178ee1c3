import Derived.Test.YtcnamihkghiigaaHK
import Derived.Test.YtcnamihkghiigaaHS3
namespace Go.Proofs.Ytcnamihkghiigaa.H
open Go.RowKit Go.Proofs.YtcnamihkghiigaaW.PrintWords Go.Proofs.YtcnamihkghiigaaW.PrintLast Go.Proofs.YtcnamihkghiigaaW.PrintMore
set_option linter.unusedVariables false
set_option linter.unusedSimpArgs false
/-! SurfaceWears: plain laws of quality -/
theorem tdiv_le {a b k : Int} (h : a ≤ b) (h0 : 0 ≤ a) (hk : 0 < k) : a.tdiv k ≤ b.tdiv k := by
  rw [Int.tdiv_eq_ediv_of_nonneg h0, Int.tdiv_eq_ediv_of_nonneg (by omega)]
  exact Int.ediv_le_ediv hk h
/-- quality without wrapping: a right surface, a time of grooming on -/
def qualP (s : SSurface) (t : Int) : Int := 1000 - s.f2 / 4 - (t - s.f1) / 3600 * 10
theorem qual_eq {s : SSurface} {t : Int} (h1 : -1 ≤ s.f1 ∧ s.f1 ≤ 20000000) (h2 : 0 ≤ s.f2 ∧ s.f2 ≤ 1000000) (hg : 0 ≤ s.f1) (ht : s.f1 ≤ t) (ht2 : t ≤ 9223372036854775807) : qualV s t = qualP s t := by
  unfold qualV qualP
  have e1 : wrap64 (t - s.f1) = t - s.f1 := by unfold wrap64; omega
  rw [e1, Int.tdiv_eq_ediv_of_nonneg h2.1, Int.tdiv_eq_ediv_of_nonneg (by omega)]
  unfold wrap64
  omega
theorem qualS_eq {s : SSurface} {t : Int} (h1 : -1 ≤ s.f1 ∧ s.f1 ≤ 20000000) (h2 : 0 ≤ s.f2 ∧ s.f2 ≤ 1000000) (ht2 : t ≤ 9223372036854775807) : qualS s t = if s.f1 < 0 ∨ t < s.f1 then 0 else if qualP s t ≤ 0 then 0 else qualP s t := by
  unfold qualS
  split
  · rfl
  · rw [qual_eq h1 h2 (by omega) (by omega) ht2]
theorem qual_rng {s : SSurface} {t : Int} (h1 : -1 ≤ s.f1 ∧ s.f1 ≤ 20000000) (h2 : 0 ≤ s.f2 ∧ s.f2 ≤ 1000000) (ht2 : t ≤ 9223372036854775807) : 0 ≤ qualS s t ∧ qualS s t ≤ 1000 := by
  rw [qualS_eq h1 h2 ht2]
  split
  · omega
  · split
    · omega
    · rename_i a b
      unfold qualP at b ⊢
      omega
theorem qual_time {s : SSurface} {t u : Int} (h1 : -1 ≤ s.f1 ∧ s.f1 ≤ 20000000) (h2 : 0 ≤ s.f2 ∧ s.f2 ≤ 1000000) (htu : t ≤ u) (hu2 : u ≤ 9223372036854775807) (ht : s.f1 ≤ t) : qualS s u ≤ qualS s t := by
  rw [qualS_eq h1 h2 hu2, qualS_eq h1 h2 (by omega)]
  unfold qualP
  split <;> split <;> (try split) <;> (try split) <;> omega
theorem qual_desc {s x : SSurface} {t : Int} (h1 : -1 ≤ s.f1 ∧ s.f1 ≤ 20000000) (h2 : 0 ≤ s.f2 ∧ s.f2 ≤ 1000000) (ht2 : t ≤ 9223372036854775807) (hx1 : x.f1 = s.f1) (hx2 : s.f2 ≤ x.f2 ∧ x.f2 ≤ 1000000) : qualS x t ≤ qualS s t := by
  rw [qualS_eq h1 h2 ht2, qualS_eq (s := x) (by omega) (by omega) ht2]
  unfold qualP
  rw [hx1]
  split <;> (try split) <;> (try split) <;> omega
theorem qual_new {s : SSurface} {t : Int} (h0 : 0 ≤ t) (ht : t ≤ 20000000) (h1 : s.f1 = t) (h2 : s.f2 = 0) : qualS s t = 1000 := by
  rw [qualS_eq (by omega) (by omega) (by omega)]
  unfold qualP
  rw [h1, h2]
  rw [if_neg (by omega), if_neg (by omega)]
  omega
theorem surX_one (s : SSurface) : surX [s] s.f0 = 0 := by
  unfold surX
  show (if (rd_Surface [s] 0).f0 == s.f0 then (0 : Int) else _) = 0
  rw [show rd_Surface [s] 0 = s from rfl]
  simp
theorem desc_one {s : SSurface} {n e : Int} {a : List SSurface} (hr : surR [s] = 0) (h : descS [s] s.f0 n = (a, e)) : (e ≠ 0) ∨ (e = 0 ∧ ∃ x, a = [x] ∧ x.f1 = s.f1 ∧ s.f2 ≤ x.f2 ∧ x.f2 ≤ 1000000) := by
  have h3 := surR_at hr (i := 0) (by omega) (by simp)
  rw [show rd_Surface [s] 0 = s from rfl] at h3
  unfold descS at h
  rw [surX_one] at h
  split at h
  · obtain ⟨rfl, rfl⟩ := Prod.mk.inj h; exact .inl (by decide)
  · split at h
    · obtain ⟨rfl, rfl⟩ := Prod.mk.inj h; exact .inl (by decide)
    · obtain ⟨rfl, rfl⟩ := Prod.mk.inj h
      refine .inr ⟨rfl, _, rfl, rfl, ?_⟩
      rw [show rd_Surface [s] 0 = s from rfl]
      simp only
      unfold minT wrap64
      split <;> omega
theorem groom_one {s : SSurface} {t e : Int} {a : List SSurface} (h : groomS [s] s.f0 t = (a, e)) : (e ≠ 0) ∨ (e = 0 ∧ ∃ x, a = [x] ∧ qualS x t = 1000) := by
  unfold groomS at h
  rw [surX_one] at h
  split at h
  · obtain ⟨rfl, rfl⟩ := Prod.mk.inj h; exact .inl (by decide)
  · split at h
    · obtain ⟨rfl, rfl⟩ := Prod.mk.inj h; exact .inl (by decide)
    · obtain ⟨rfl, rfl⟩ := Prod.mk.inj h
      exact .inr ⟨rfl, _, rfl, qual_new (by omega) (by omega) rfl rfl⟩

end Go.Proofs.Ytcnamihkghiigaa.H
