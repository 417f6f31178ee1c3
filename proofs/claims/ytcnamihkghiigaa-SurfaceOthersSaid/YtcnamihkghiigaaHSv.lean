import Derived.Test.YtcnamihkghiigaaHK
import Derived.Test.YtcnamihkghiigaaHSd
import Derived.Shelf.Abstract
namespace Go.Proofs.Ytcnamihkghiigaa.H
open Go.RowKit Go.Proofs.YtcnamihkghiigaaW.PrintWords Go.Proofs.YtcnamihkghiigaaW.PrintLast Go.Proofs.YtcnamihkghiigaaW.PrintMore
set_option linter.unusedVariables false
set_option linter.unusedSimpArgs false
/-! insertion sort of surfaces, by whatever comparison -/
def swapS (xs : List SSurface) (j k : Int) : List SSurface := (xs.set j.toNat (rd_Surface xs k)).set k.toNat (rd_Surface xs j)
def insF (c : SSurface → SSurface → Int) : Nat → Int → List SSurface → List SSurface
  | 0, _, xs => xs
  | d + 1, j, xs => if c (rd_Surface xs j) (rd_Surface xs (j - 1)) < 0 then insF c d (j - 1) (swapS xs j (j - 1)) else xs
def outF (c : SSurface → SSurface → Int) (a : Int) : Nat → Int → List SSurface → List SSurface
  | 0, _, xs => xs
  | d + 1, i, xs => outF c a d (i + 1) (insF c (i - a).toNat i xs)
theorem insF_len (c : SSurface → SSurface → Int) : ∀ (d : Nat) (j : Int) (xs : List SSurface), (insF c d j xs).length = xs.length := by
  intro d
  induction d with
  | zero => intro j xs; rfl
  | succ d ih => intro j xs; simp only [insF]; split <;> simp [ih, swapS]
theorem outF_len (c : SSurface → SSurface → Int) (a : Int) : ∀ (d : Nat) (j : Int) (xs : List SSurface), (outF c a d j xs).length = xs.length := by
  intro d
  induction d with
  | zero => intro j xs; rfl
  | succ d ih => intro j xs; simp only [outF]; rw [ih, insF_len]
theorem insF_step {c : SSurface → SSurface → Int} {a j : Int} {xs : List SSurface} (h : a < j) : insF c (j - a).toNat j xs = if c (rd_Surface xs j) (rd_Surface xs (j - 1)) < 0 then insF c (j - 1 - a).toNat (j - 1) (swapS xs j (j - 1)) else xs := by
  rw [show (j - a).toNat = (j - 1 - a).toNat + 1 by omega]; rfl
theorem outF_step {c : SSurface → SSurface → Int} {a b i : Int} {xs : List SSurface} (h : i < b) : outF c a (b - i).toNat i xs = outF c a (b - (i + 1)).toNat (i + 1) (insF c (i - a).toNat i xs) := by
  rw [show (b - i).toNat = (b - (i + 1)).toNat + 1 by omega]; rfl
set_option maxHeartbeats 8000000 in
theorem insSort_c (f : Nat) (lb : Array Value) (c : SSurface → SSurface → Int) (w0 w : World) (g n cap : Nat) (xs : List SSurface) (a b : Int) (ha : 0 ≤ a) (hab : a ≤ b) (hb : b ≤ xs.length) (hn : xs.length ≤ 1000)
    (hr : Kd.R kSurface 32 w w0.heap.size (fun _ => True) (.slice (some ⟨g, 0, none⟩) n cap) xs) (hu0 : Up w0 w)
    (eg : ∀ args w, (callFunc f args).run Try.prog w = .ok (.enter f args) w)
    (hp : ∀ (W : World) (x y : SSurface), Up w0 W → Calls Try.prog f (#[.agg #[.int .i64 x.f0, .int .i64 x.f1, .int .i64 x.f2], .agg #[.int .i64 y.f0, .int .i64 y.f1, .int .i64 y.f2]] ++ lb) W fun e w' => e = .returned (.int .i64 (c x y)) ∧ Up W w') :
    Calls Try.prog 35 #[.slice (some ⟨g, 0, none⟩) n cap, .int .i64 a, .int .i64 b, .func (.func f) #[] lb] w fun e w' => e = .returned (.tuple #[]) ∧ Kd.R kSurface 32 w' w0.heap.size (fun _ => True) (.slice (some ⟨g, 0, none⟩) n cap) (outF c a (b - (a + 1)).toNat (a + 1) xs) ∧ Up w0 w' := by
  have hu := Try.underlying32
  have hnx := (Kd.R_reads' hr).1
  have HA := Aside0.mk ha
  have HB := Aside0.mk hb
  have HN := Aside0.mk hn
  have HR := Aside0.mk hr
  have HU := Aside0.mk hu0
  have HP := Aside0.mk hp
  have HX := Aside0.mk hnx
  have HAB := Aside0.mk hab
  clear hr hu0 hp ha hb hn hnx hab
  have hw1 : wrap64 (a + 1) = a + 1 := by have := HA.out; have := HB.out; have := HN.out; have := HAB.out; unfold wrap64; omega
  go_enter Try.func35, Try.ntmps35
  go_wp2
  go_loopg [8, 9] (b.toNat) (fun gk v8 _ w' => ∃ (i : Int) (ys : List SSurface), v8 = .int .i64 i ∧ a < i ∧ (b - i).toNat ≤ gk ∧ Aside0 (ys.length = xs.length) ∧ Aside0 (outF c a (b - (a + 1)).toNat (a + 1) xs = outF c a (b - i).toNat i ys) ∧ Aside0 (Kd.R kSurface 32 w' w0.heap.size (fun _ => True) (.slice (some ⟨g, 0, none⟩) n cap) ys) ∧ Aside0 (Up w0 w'))
  case atStart => exact ⟨a + 1, xs, (by first | rfl | (congr 1; done)), by omega, by have := HA.out; omega, ⟨rfl⟩, ⟨rfl⟩, HR, HU⟩
  case round =>
    clear HR HU
    obtain ⟨i, ys, rfl, hi, hg, HL, HS, HR, HU⟩ := hrel
    have HI := Aside0.mk hi
    by_cases hlt : i < b
    · have HT := Aside0.mk hlt
      have HS := Aside0.mk (HS.out.trans (outF_step hlt))
      have hlt2 := decide_eq_true hlt
      have HG := Aside0.mk hg
      clear hlt hi hg hw1
      go_wp2
      go_loopg [9] (i.toNat) (fun gi v9 w' => ∃ (j : Int) (zs : List SSurface), v9 = .int .i64 j ∧ a ≤ j ∧ j ≤ i ∧ (j - a).toNat ≤ gi ∧ Aside0 (zs.length = xs.length) ∧ Aside0 (insF c (i - a).toNat i ys = insF c (j - a).toNat j zs) ∧ Aside0 (Kd.R kSurface 32 w' w0.heap.size (fun _ => True) (.slice (some ⟨g, 0, none⟩) n cap) zs) ∧ Aside0 (Up w0 w'))
      case atStart => exact ⟨i, ys, rfl, by have := HI.out; omega, by omega, by have := HI.out; have := HA.out; omega, HL, ⟨rfl⟩, HR, HU⟩
      case round =>
        clear HR HU HL
        obtain ⟨j, zs, rfl, hja, hji, hg, HL, HZ, HR, HU⟩ := hrel
        have HJ := Aside0.mk hja
        have HJI := Aside0.mk hji
        have HGI := Aside0.mk hg
        by_cases hlt : a < j
        · have HT2 := Aside0.mk hlt
          obtain ⟨k, hk⟩ : ∃ k, j - 1 = k := ⟨_, rfl⟩
          have HK := Aside0.mk hk
          have h0 : 0 ≤ j := by have := HA.out; omega
          have h1 : j < n := by have := HX.out; have := HL.out; have := HT.out; have := HB.out; omega
          have k0 : 0 ≤ k := by have := HA.out; omega
          have k1 : k < n := by omega
          have hw : wrap64 (j - 1) = k := by have := HX.out; have := HN.out; have := HL.out; unfold wrap64; omega
          have hw2 : IntKind.i64.wrap (j - 1) = k := (i64_w _).trans hw
          obtain ⟨c0, c1, c2, cf⟩ := rowSur HR.out h0 h1
          obtain ⟨d0, d1, d2, df⟩ := rowSur HR.out k0 k1
          have C0 := Aside0.mk (fun W (u : Up wr W) => (u.cell (World.block_lt_of_cell? wr _ c0)).trans c0)
          have C1 := Aside0.mk (fun W (u : Up wr W) => (u.cell (World.block_lt_of_cell? wr _ c1)).trans c1)
          have C2 := Aside0.mk (fun W (u : Up wr W) => (u.cell (World.block_lt_of_cell? wr _ c2)).trans c2)
          have D0 := Aside0.mk (fun W (u : Up wr W) => (u.cell (World.block_lt_of_cell? wr _ d0)).trans d0)
          have D1 := Aside0.mk (fun W (u : Up wr W) => (u.cell (World.block_lt_of_cell? wr _ d1)).trans d1)
          have D2 := Aside0.mk (fun W (u : Up wr W) => (u.cell (World.block_lt_of_cell? wr _ d2)).trans d2)
          obtain ⟨v, hv⟩ : ∃ v, c (rd_Surface zs j) (rd_Surface zs k) = v := ⟨_, rfl⟩
          have HV := Aside0.mk hv
          have HZ := Aside0.mk (HZ.out.trans (insF_step hlt))
          rw [hk, hv] at HZ
          have hlt2 := decide_eq_true hlt
          have H0 := Aside0.mk h0
          have H1 := Aside0.mk h1
          have HK0 := Aside0.mk k0
          have HK1 := Aside0.mk k1
          clear c0 c1 c2 cf d0 d1 d2 df hk hv hja hji hg hlt
          replace h0 := eq_true h0; replace h1 := eq_true h1; replace k0 := eq_true k0; replace k1 := eq_true k1
          by_cases t2 : v < 0
          · have HZ := Aside0.mk (HZ.out.trans (if_pos t2))
            replace t2 := decide_eq_true t2
            go_upto_region 4 with (fail)
            first | (go_region_held3 (fun w' => Up wr w' ∧ w'.cell? ⟨g, j.toNat * 3, none⟩ = some (.int .i64 (rd_Surface zs j).f0) ∧ w'.cell? ⟨g, j.toNat * 3 + 1, none⟩ = some (.int .i64 (rd_Surface zs j).f1) ∧ w'.cell? ⟨g, j.toNat * 3 + 2, none⟩ = some (.int .i64 (rd_Surface zs j).f2) ∧ w'.cell? ⟨g, k.toNat * 3, none⟩ = some (.int .i64 (rd_Surface zs k).f0) ∧ w'.cell? ⟨g, k.toNat * 3 + 1, none⟩ = some (.int .i64 (rd_Surface zs k).f1) ∧ w'.cell? ⟨g, k.toNat * 3 + 2, none⟩ = some (.int .i64 (rd_Surface zs k).f2)) (first | (have hU_ := (Up.refl wr).drew; exact ⟨hU_, C0.out _ hU_, C1.out _ hU_, C2.out _ hU_, D0.out _ hU_, D1.out _ hU_, D2.out _ hU_⟩) | (have hU_ : Up wr _ := (by assumption); exact ⟨hU_, C0.out _ hU_, C1.out _ hU_, C2.out _ hU_, D0.out _ hU_, D1.out _ hU_, D2.out _ hU_⟩)) (first | (go_at_fn f; (refine (HP.out _ (rd_Surface zs j) (rd_Surface zs k) ?_).mono ?_); (first | exact Up.step HU.out (by assumption) | exact Up.step HU.out (Up.refl wr).drew); rw [HV.out]; rintro e w' ⟨rfl, hb⟩; have hU := Up.step (w := wr) (by first | assumption | exact (Up.refl wr).drew) hb; clear hb))) | fail
            all_goals
              have HBW := Aside0.mk (show Up wr _ by assumption)
              have R1 := Kd.R_below HR.out HBW.out
              have HR1 := Aside0.mk R1
              obtain ⟨c0, c1, c2, cf⟩ := rowSur HR1.out H0.out H1.out
              obtain ⟨d0, d1, d2, df⟩ := rowSur HR1.out HK0.out HK1.out
              have f0 := cf 0
              have f1 := cf 1
              have f2 := cf 2
              have e0 := df 0
              have e1 := df 1
              have e2 := df 2
              simp only [Nat.add_zero] at f0 e0
              have n1 : (k.toNat = j.toNat) = False := eq_false (by have := HK.out; have := HK0.out; omega)
              have n2 : (j.toNat = k.toNat) = False := eq_false (by have := HK.out; have := HK0.out; omega)
              have n3 : (k.toNat * 3 = j.toNat * 3) = False := eq_false (by have := HK.out; have := HK0.out; omega)
              have n4 : (j.toNat * 3 = k.toNat * 3) = False := eq_false (by have := HK.out; have := HK0.out; omega)
              clear R1 cf df
              go_upto_region 6 with (fail)
              go_region
              go_wp2
              have hg0 := Kd.R_base HR.out g (by simp [Value.ownBlock])
              go_roundg ((k - a).toNat)
              case measure => have := HGI.out; have := HT2.out; have := HK.out; omega
              case rel => exact ⟨k, swapS zs j k, rfl, by have := HK.out; have := HT2.out; omega, by have := HK.out; have := HJI.out; omega, Nat.le_refl _, ⟨by rw [← HL.out]; simp [swapS]⟩, HZ, ⟨Kd.R_drew (setSur (setSur HR1.out H0.out H1.out (rd_Surface zs k)) HK0.out HK1.out (rd_Surface zs j))⟩, ⟨(by have HU_ := Up.step HU.out HBW.out; repeat (with_reducible first | exact HU_ | refine Up.set ?_ (by omega) | apply Up.alloc | apply Up.drewN | apply Up.drew))⟩⟩
          · have HZ := Aside0.mk (HZ.out.trans (if_neg t2))
            replace t2 := decide_eq_false t2
            go_upto_region 4 with (fail)
            first | (go_region_held3 (fun w' => Up wr w' ∧ w'.cell? ⟨g, j.toNat * 3, none⟩ = some (.int .i64 (rd_Surface zs j).f0) ∧ w'.cell? ⟨g, j.toNat * 3 + 1, none⟩ = some (.int .i64 (rd_Surface zs j).f1) ∧ w'.cell? ⟨g, j.toNat * 3 + 2, none⟩ = some (.int .i64 (rd_Surface zs j).f2) ∧ w'.cell? ⟨g, k.toNat * 3, none⟩ = some (.int .i64 (rd_Surface zs k).f0) ∧ w'.cell? ⟨g, k.toNat * 3 + 1, none⟩ = some (.int .i64 (rd_Surface zs k).f1) ∧ w'.cell? ⟨g, k.toNat * 3 + 2, none⟩ = some (.int .i64 (rd_Surface zs k).f2)) (first | (have hU_ := (Up.refl wr).drew; exact ⟨hU_, C0.out _ hU_, C1.out _ hU_, C2.out _ hU_, D0.out _ hU_, D1.out _ hU_, D2.out _ hU_⟩) | (have hU_ : Up wr _ := (by assumption); exact ⟨hU_, C0.out _ hU_, C1.out _ hU_, C2.out _ hU_, D0.out _ hU_, D1.out _ hU_, D2.out _ hU_⟩)) (first | (go_at_fn f; (refine (HP.out _ (rd_Surface zs j) (rd_Surface zs k) ?_).mono ?_); (first | exact Up.step HU.out (by assumption) | exact Up.step HU.out (Up.refl wr).drew); rw [HV.out]; rintro e w' ⟨rfl, hb⟩; have hU := Up.step (w := wr) (by first | assumption | exact (Up.refl wr).drew) hb; clear hb))) | fail
            all_goals
              have HBW := Aside0.mk (show Up wr _ by assumption)
              go_wp2
              go_roundg ((b - (i + 1)).toNat)
              case measure => have := HG.out; have := HT.out; omega
              case rel => exact ⟨i + 1, zs, (by have := HT.out; have := HI.out; have := HA.out; have := HB.out; have := HN.out; congr 1; unfold wrap64; omega), by have := HI.out; omega, Nat.le_refl _, HL, ⟨HS.out.trans (by rw [HZ.out])⟩, ⟨Kd.R_below HR.out HBW.out⟩, ⟨Up.step HU.out HBW.out⟩⟩
        · have HZ := Aside0.mk (HZ.out.trans (show insF c (j - a).toNat j zs = zs by rw [show (j - a).toNat = 0 by omega]; rfl))
          clear hja hji hg
          replace hlt := decide_eq_false hlt
          go_wp2; repeat (go_quiet (fail); try go_wp2)
          go_roundg ((b - (i + 1)).toNat)
          case measure => have := HG.out; have := HT.out; omega
          case rel => exact ⟨i + 1, zs, (by have := HT.out; have := HI.out; have := HA.out; have := HB.out; have := HN.out; congr 1; unfold wrap64; omega), by have := HI.out; omega, Nat.le_refl _, HL, ⟨HS.out.trans (by rw [HZ.out])⟩, ⟨Kd.R_below HR.out (Up.refl wr |>.drewN _)⟩, ⟨HU.out.drewN _⟩⟩
    · have HS := Aside0.mk (HS.out.trans (show outF c a (b - i).toNat i ys = ys by rw [show (b - i).toNat = 0 by omega]; rfl))
      clear hi hg
      replace hlt := decide_eq_false hlt
      go_wp2
      rw [HS.out]
      exact bodyPost_end (by simp [results, Try.results35, go_sem]) rfl ⟨rfl, HR.out, HU.out⟩

end Go.Proofs.Ytcnamihkghiigaa.H
