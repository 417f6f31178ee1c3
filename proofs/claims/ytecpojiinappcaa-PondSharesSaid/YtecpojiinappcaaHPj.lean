import Derived.Test.YtecpojiinappcaaHK
import Derived.Test.YtecpojiinappcaaHPv
import Derived.Shelf.Abstract
namespace Go.Proofs.Ytecpojiinappcaa.H
open Go.RowKit Go.Proofs.YtecpojiinappcaaW.PrintWords Go.Proofs.YtecpojiinappcaaW.PrintLast Go.Proofs.YtecpojiinappcaaW.PrintMore
set_option linter.unusedVariables false
set_option linter.unusedSimpArgs false
/-! insertion sort of ints, by whatever comparison; stable sort of at most 19 -/
def swapI (xs : List Int) (j k : Int) : List Int := (xs.set j.toNat (rd_Int xs k)).set k.toNat (rd_Int xs j)
theorem rdI_swap {xs : List Int} {j k : Int} (j0 : 0 ≤ j) (j1 : j < xs.length) (k0 : 0 ≤ k) (k1 : k < xs.length) {i : Int} (h0 : 0 ≤ i) : rd_Int (swapI xs j k) i = if i = k then rd_Int xs j else if i = j then rd_Int xs k else rd_Int xs i := by
  unfold swapI
  rw [rdI_set k0 (by rw [List.length_set]; exact k1) h0, rdI_set j0 j1 h0]
theorem swapI_D {D : Int → Prop} {xs : List Int} {j k : Int} (h : ∀ i : Int, 0 ≤ i → i < xs.length → D (rd_Int xs i)) (j0 : 0 ≤ j) (j1 : j < xs.length) (k0 : 0 ≤ k) (k1 : k < xs.length) : ∀ i : Int, 0 ≤ i → i < (swapI xs j k).length → D (rd_Int (swapI xs j k) i) := by
  intro i h0 h1
  rw [rdI_swap j0 j1 k0 k1 h0]
  split
  · exact h j j0 j1
  · split
    · exact h k k0 k1
    · exact h i h0 (by simpa [swapI] using h1)
def insI (c : Int → Int → Int) : Nat → Int → List Int → List Int
  | 0, _, xs => xs
  | d + 1, j, xs => if c (rd_Int xs j) (rd_Int xs (j - 1)) < 0 then insI c d (j - 1) (swapI xs j (j - 1)) else xs
def outI (c : Int → Int → Int) (a : Int) : Nat → Int → List Int → List Int
  | 0, _, xs => xs
  | d + 1, i, xs => outI c a d (i + 1) (insI c (i - a).toNat i xs)
theorem insI_len (c : Int → Int → Int) : ∀ (d : Nat) (j : Int) (xs : List Int), (insI c d j xs).length = xs.length := by
  intro d
  induction d with
  | zero => intro j xs; rfl
  | succ d ih => intro j xs; simp only [insI]; split <;> simp [ih, swapI]
theorem outI_len (c : Int → Int → Int) (a : Int) : ∀ (d : Nat) (j : Int) (xs : List Int), (outI c a d j xs).length = xs.length := by
  intro d
  induction d with
  | zero => intro j xs; rfl
  | succ d ih => intro j xs; simp only [outI]; rw [ih, insI_len]
theorem insI_step {c : Int → Int → Int} {a j : Int} {xs : List Int} (h : a < j) : insI c (j - a).toNat j xs = if c (rd_Int xs j) (rd_Int xs (j - 1)) < 0 then insI c (j - 1 - a).toNat (j - 1) (swapI xs j (j - 1)) else xs := by
  rw [show (j - a).toNat = (j - 1 - a).toNat + 1 by omega]; rfl
theorem outI_step {c : Int → Int → Int} {a b i : Int} {xs : List Int} (h : i < b) : outI c a (b - i).toNat i xs = outI c a (b - (i + 1)).toNat (i + 1) (insI c (i - a).toNat i xs) := by
  rw [show (b - i).toNat = (b - (i + 1)).toNat + 1 by omega]; rfl
set_option maxHeartbeats 8000000 in
theorem insSortI_c (f : Nat) (lb : Array Value) (c : Int → Int → Int) (w0 w : World) (g n cap : Nat) (xs : List Int) (a b : Int) (ha : 0 ≤ a) (hab : a ≤ b) (hb : b ≤ xs.length) (hn : xs.length ≤ 1000)
    (hr : Kd.R (Kd.int .i64) 3 w w0.heap.size (fun _ => True) (.slice (some ⟨g, 0, none⟩) n cap) xs) (hu0 : Up w0 w)
    (eg : ∀ args w, (callFunc f args).run Try.prog w = .ok (.enter f args) w)
    (D : Int → Prop) (hD : ∀ i : Int, 0 ≤ i → i < xs.length → D (rd_Int xs i))
    (hp : ∀ (W : World) (x y : Int), Up w0 W → D x → D y → Calls Try.prog f (#[.int .i64 x, .int .i64 y] ++ lb) W fun e w' => e = .returned (.int .i64 (c x y)) ∧ Up W w') :
    Calls Try.prog 50 #[.slice (some ⟨g, 0, none⟩) n cap, .int .i64 a, .int .i64 b, .func (.func f) #[] lb] w fun e w' => e = .returned (.tuple #[]) ∧ Kd.R (Kd.int .i64) 3 w' w0.heap.size (fun _ => True) (.slice (some ⟨g, 0, none⟩) n cap) (outI c a (b - (a + 1)).toNat (a + 1) xs) ∧ Up w0 w' := by
  have hnx := (Kd.R_reads' hr).1
  have HD := Aside0.mk hD
  have HA := Aside0.mk ha
  have HB := Aside0.mk hb
  have HN := Aside0.mk hn
  have HR := Aside0.mk hr
  have HU := Aside0.mk hu0
  have HP := Aside0.mk hp
  have HX := Aside0.mk hnx
  have HAB := Aside0.mk hab
  clear hr hu0 hp ha hb hn hnx hab hD
  have hw1 : wrap64 (a + 1) = a + 1 := by have := HA.out; have := HB.out; have := HN.out; have := HAB.out; unfold wrap64; omega
  go_enter Try.func50, Try.ntmps50
  go_wp2
  go_loopg [8, 9] (b.toNat) (fun gk v8 _ w' => ∃ (i : Int) (ys : List Int), v8 = .int .i64 i ∧ a < i ∧ (b - i).toNat ≤ gk ∧ Aside0 (ys.length = xs.length) ∧ Aside0 (∀ i : Int, 0 ≤ i → i < ys.length → D (rd_Int ys i)) ∧ Aside0 (outI c a (b - (a + 1)).toNat (a + 1) xs = outI c a (b - i).toNat i ys) ∧ Aside0 (Kd.R (Kd.int .i64) 3 w' w0.heap.size (fun _ => True) (.slice (some ⟨g, 0, none⟩) n cap) ys) ∧ Aside0 (Up w0 w'))
  case atStart => exact ⟨a + 1, xs, (by first | rfl | (congr 1; done)), by omega, by have := HA.out; omega, ⟨rfl⟩, HD, ⟨rfl⟩, HR, HU⟩
  case round =>
    clear HR HU HD
    obtain ⟨i, ys, rfl, hi, hg, HL, HD, HS, HR, HU⟩ := hrel
    have HI := Aside0.mk hi
    by_cases hlt : i < b
    · have HT := Aside0.mk hlt
      have HS := Aside0.mk (HS.out.trans (outI_step hlt))
      have hlt2 := decide_eq_true hlt
      have HG := Aside0.mk hg
      clear hlt hi hg hw1
      go_wp2
      go_loopg [9] (i.toNat) (fun gi v9 w' => ∃ (j : Int) (zs : List Int), v9 = .int .i64 j ∧ a ≤ j ∧ j ≤ i ∧ (j - a).toNat ≤ gi ∧ Aside0 (zs.length = xs.length) ∧ Aside0 (∀ i : Int, 0 ≤ i → i < zs.length → D (rd_Int zs i)) ∧ Aside0 (insI c (i - a).toNat i ys = insI c (j - a).toNat j zs) ∧ Aside0 (Kd.R (Kd.int .i64) 3 w' w0.heap.size (fun _ => True) (.slice (some ⟨g, 0, none⟩) n cap) zs) ∧ Aside0 (Up w0 w'))
      case atStart => exact ⟨i, ys, rfl, by have := HI.out; omega, by omega, by have := HI.out; have := HA.out; omega, HL, HD, ⟨rfl⟩, HR, HU⟩
      case round =>
        clear HR HU HL HD
        obtain ⟨j, zs, rfl, hja, hji, hg, HL, HD, HZ, HR, HU⟩ := hrel
        have HJ := Aside0.mk hja
        have HJI := Aside0.mk hji
        have HGI := Aside0.mk hg
        by_cases hlt : a < j
        · have HT2 := Aside0.mk hlt
          obtain ⟨k, hk⟩ : ∃ k, j - 1 = k := ⟨_, rfl⟩
          have HK := Aside0.mk hk
          have h0 : 0 ≤ j := by have := HA.out; omega
          have h1 : j < n := by have := HX.out; have := HL.out; have := HT.out; have := HB.out; omega
          have k0 : 0 ≤ k := by have := HA.out; omega
          have k1 : k < n := by omega
          have hw : wrap64 (j - 1) = k := by have := HX.out; have := HN.out; have := HL.out; unfold wrap64; omega
          have hw2 : IntKind.i64.wrap (j - 1) = k := (i64_w _).trans hw
          obtain ⟨c0, cf⟩ := RI_cell HR.out h0 h1
          obtain ⟨d0, df⟩ := RI_cell HR.out k0 k1
          have HDJ := Aside0.mk (HD.out j h0 (by have := HX.out; have := HL.out; omega))
          have HDK := Aside0.mk (HD.out k k0 (by have := HX.out; have := HL.out; omega))
          have C0 := Aside0.mk (fun W (u : Up wr W) => (u.cell (World.block_lt_of_cell? wr _ c0)).trans c0)
          have D0 := Aside0.mk (fun W (u : Up wr W) => (u.cell (World.block_lt_of_cell? wr _ d0)).trans d0)
          obtain ⟨v, hv⟩ : ∃ v, c (rd_Int zs j) (rd_Int zs k) = v := ⟨_, rfl⟩
          have HV := Aside0.mk hv
          have HZ := Aside0.mk (HZ.out.trans (insI_step hlt))
          rw [hk, hv] at HZ
          have hlt2 := decide_eq_true hlt
          have H0 := Aside0.mk h0
          have H1 := Aside0.mk h1
          have HK0 := Aside0.mk k0
          have HK1 := Aside0.mk k1
          clear c0 cf d0 df hk hv hja hji hg hlt
          replace h0 := eq_true h0; replace h1 := eq_true h1; replace k0 := eq_true k0; replace k1 := eq_true k1
          by_cases t2 : v < 0
          · have HZ := Aside0.mk (HZ.out.trans (if_pos t2))
            replace t2 := decide_eq_true t2
            go_upto_region 4 with (fail)
            first | (go_region_held3 (fun w' => Up wr w' ∧ w'.cell? ⟨g, j.toNat, none⟩ = some (.int .i64 (rd_Int zs j)) ∧ w'.cell? ⟨g, k.toNat, none⟩ = some (.int .i64 (rd_Int zs k))) (first | (have hU_ := (Up.refl wr).drew; exact ⟨hU_, C0.out _ hU_, D0.out _ hU_⟩) | (have hU_ : Up wr _ := (by assumption); exact ⟨hU_, C0.out _ hU_, D0.out _ hU_⟩)) (first | (go_at_fn f; (refine (HP.out _ (rd_Int zs j) (rd_Int zs k) ?_ HDJ.out HDK.out).mono ?_); (first | exact Up.step HU.out (by assumption) | exact Up.step HU.out (Up.refl wr).drew); rw [HV.out]; rintro e w' ⟨rfl, hb⟩; have hU := Up.step (w := wr) (by first | assumption | exact (Up.refl wr).drew) hb; clear hb))) | fail
            all_goals
              have HBW := Aside0.mk (show Up wr _ by assumption)
              have R1 := Kd.R_below HR.out HBW.out
              have HR1 := Aside0.mk R1
              obtain ⟨c0, cf⟩ := RI_cell HR1.out H0.out H1.out
              obtain ⟨d0, df⟩ := RI_cell HR1.out HK0.out HK1.out
              have n1 : (k.toNat = j.toNat) = False := eq_false (by have := HK.out; have := HK0.out; omega)
              have n2 : (j.toNat = k.toNat) = False := eq_false (by have := HK.out; have := HK0.out; omega)
              clear R1
              go_upto_region 6 with (fail)
              go_region
              go_wp2
              have hg0 := Kd.R_base HR.out g (by simp [Value.ownBlock])
              go_roundg ((k - a).toNat)
              case measure => have := HGI.out; have := HT2.out; have := HK.out; omega
              case rel => exact ⟨k, swapI zs j k, rfl, by have := HK.out; have := HT2.out; omega, by have := HK.out; have := HJI.out; omega, Nat.le_refl _, ⟨by rw [← HL.out]; simp [swapI]⟩, ⟨swapI_D HD.out H0.out (by have := HX.out; have := HL.out; have := H1.out; omega) HK0.out (by have := HX.out; have := HL.out; have := HK1.out; omega)⟩, HZ, ⟨Kd.R_drew (RI_set (RI_set HR1.out j (rd_Int zs k)) k (rd_Int zs j))⟩, ⟨(by have HU_ := Up.step HU.out HBW.out; repeat (with_reducible first | exact HU_ | refine Up.set ?_ (by omega) | apply Up.alloc | apply Up.drewN | apply Up.drew))⟩⟩
          · have HZ := Aside0.mk (HZ.out.trans (if_neg t2))
            replace t2 := decide_eq_false t2
            go_upto_region 4 with (fail)
            first | (go_region_held3 (fun w' => Up wr w' ∧ w'.cell? ⟨g, j.toNat, none⟩ = some (.int .i64 (rd_Int zs j)) ∧ w'.cell? ⟨g, k.toNat, none⟩ = some (.int .i64 (rd_Int zs k))) (first | (have hU_ := (Up.refl wr).drew; exact ⟨hU_, C0.out _ hU_, D0.out _ hU_⟩) | (have hU_ : Up wr _ := (by assumption); exact ⟨hU_, C0.out _ hU_, D0.out _ hU_⟩)) (first | (go_at_fn f; (refine (HP.out _ (rd_Int zs j) (rd_Int zs k) ?_ HDJ.out HDK.out).mono ?_); (first | exact Up.step HU.out (by assumption) | exact Up.step HU.out (Up.refl wr).drew); rw [HV.out]; rintro e w' ⟨rfl, hb⟩; have hU := Up.step (w := wr) (by first | assumption | exact (Up.refl wr).drew) hb; clear hb))) | fail
            all_goals
              have HBW := Aside0.mk (show Up wr _ by assumption)
              go_wp2
              go_roundg ((b - (i + 1)).toNat)
              case measure => have := HG.out; have := HT.out; omega
              case rel => exact ⟨i + 1, zs, (by have := HT.out; have := HI.out; have := HA.out; have := HB.out; have := HN.out; congr 1; unfold wrap64; omega), by have := HI.out; omega, Nat.le_refl _, HL, HD, ⟨HS.out.trans (by rw [HZ.out])⟩, ⟨Kd.R_below HR.out HBW.out⟩, ⟨Up.step HU.out HBW.out⟩⟩
        · have HZ := Aside0.mk (HZ.out.trans (show insI c (j - a).toNat j zs = zs by rw [show (j - a).toNat = 0 by omega]; rfl))
          clear hja hji hg
          replace hlt := decide_eq_false hlt
          go_wp2; repeat (go_quiet (fail); try go_wp2)
          go_roundg ((b - (i + 1)).toNat)
          case measure => have := HG.out; have := HT.out; omega
          case rel => exact ⟨i + 1, zs, (by have := HT.out; have := HI.out; have := HA.out; have := HB.out; have := HN.out; congr 1; unfold wrap64; omega), by have := HI.out; omega, Nat.le_refl _, HL, HD, ⟨HS.out.trans (by rw [HZ.out])⟩, ⟨Kd.R_below HR.out (Up.refl wr |>.drewN _)⟩, ⟨HU.out.drewN _⟩⟩
    · have HS := Aside0.mk (HS.out.trans (show outI c a (b - i).toNat i ys = ys by rw [show (b - i).toNat = 0 by omega]; rfl))
      clear hi hg
      replace hlt := decide_eq_false hlt
      go_wp2
      rw [HS.out]
      exact bodyPost_end (by simp [results, Try.results50, go_sem]) rfl ⟨rfl, HR.out, HU.out⟩
def sortI (c : Int → Int → Int) (xs : List Int) : List Int := outI c 0 ((xs.length : Int) - (0 + 1)).toNat (0 + 1) xs
set_option maxHeartbeats 8000000 in
theorem stableI_c (f : Nat) (lb : Array Value) (c : Int → Int → Int) (w0 w : World) (g n cap : Nat) (xs : List Int) (hn : xs.length ≤ 19)
    (hr : Kd.R (Kd.int .i64) 3 w w0.heap.size (fun _ => True) (.slice (some ⟨g, 0, none⟩) n cap) xs) (hu0 : Up w0 w)
    (eg : ∀ args w, (callFunc f args).run Try.prog w = .ok (.enter f args) w)
    (D : Int → Prop) (hD : ∀ i : Int, 0 ≤ i → i < xs.length → D (rd_Int xs i))
    (hp : ∀ (W : World) (x y : Int), Up w0 W → D x → D y → Calls Try.prog f (#[.int .i64 x, .int .i64 y] ++ lb) W fun e w' => e = .returned (.int .i64 (c x y)) ∧ Up W w') :
    Calls Try.prog 47 #[.slice (some ⟨g, 0, none⟩) n cap, .int .i64 n, .func (.func f) #[] lb] w fun e w' => e = .returned (.tuple #[]) ∧ Kd.R (Kd.int .i64) 3 w' w0.heap.size (fun _ => True) (.slice (some ⟨g, 0, none⟩) n cap) (sortI c xs) ∧ Up w0 w' := by
  have hnx := (Kd.R_reads' hr).1
  have HN := Aside0.mk hn
  have HR := Aside0.mk hr
  have HU := Aside0.mk hu0
  have HP := Aside0.mk hp
  have HX := Aside0.mk hnx
  have t1 : decide (20 ≤ (n : Int)) = false := decide_eq_false (by omega)
  have t2 : decide (20 < (n : Int)) = false := decide_eq_false (by omega)
  have hins := insSortI_c f lb c w0 w g n cap xs 0 n (by omega) (by omega) (by omega) (by omega) hr hu0 eg D hD hp
  rw [show outI c 0 ((n : Int) - (0 + 1)).toNat (0 + 1) xs = sortI c xs by rw [hnx]; rfl] at hins
  clear hr hu0 hp hn hnx hD
  go_enter Try.func47, Try.ntmps47
  go_wp2
  go_loopg [7, 8] 1 (fun gk v7 v8 w' => v7 = .int .i64 0 ∧ v8 = .int .i64 20 ∧ w' = w)
  case atStart => exact ⟨rfl, rfl, rfl⟩
  case round =>
    obtain ⟨rfl, rfl, rfl⟩ := hrel
    go_wp2_with fail
    (with_reducible refine hins.mono ?_)
    rintro e w' ⟨rfl, hR, hb⟩
    have HO := Aside0.mk hR
    have HB2 := Aside0.mk hb
    clear hR hb hins
    go_wp2
    go_loopg [6] 1 (fun gk v6 w1 => v6 = .int .i64 20 ∧ w1 = w')
    case atStart => exact ⟨rfl, rfl⟩
    case round =>
      obtain ⟨rfl, rfl⟩ := hrel
      go_wp2
      exact bodyPost_end (by simp [results, Try.results47, go_sem]) rfl ⟨rfl, HO.out, HB2.out⟩
set_option maxHeartbeats 8000000 in
theorem sortI_c (f : Nat) (lb : Array Value) (c : Int → Int → Int) (w0 w : World) (g n cap : Nat) (xs : List Int) (hn : xs.length ≤ 19)
    (hr : Kd.R (Kd.int .i64) 3 w w0.heap.size (fun _ => True) (.slice (some ⟨g, 0, none⟩) n cap) xs) (hu0 : Up w0 w)
    (eg : ∀ args w, (callFunc f args).run Try.prog w = .ok (.enter f args) w)
    (D : Int → Prop) (hD : ∀ i : Int, 0 ≤ i → i < xs.length → D (rd_Int xs i))
    (hp : ∀ (W : World) (x y : Int), Up w0 W → D x → D y → Calls Try.prog f (#[.int .i64 x, .int .i64 y] ++ lb) W fun e w' => e = .returned (.int .i64 (c x y)) ∧ Up W w') :
    Calls Try.prog 41 #[.slice (some ⟨g, 0, none⟩) n cap, .func (.func f) #[] lb] w fun e w' => e = .returned (.tuple #[]) ∧ Kd.R (Kd.int .i64) 3 w' w0.heap.size (fun _ => True) (.slice (some ⟨g, 0, none⟩) n cap) (sortI c xs) ∧ Up w0 w' := by
  have hs := stableI_c f lb c w0 w g n cap xs hn hr hu0 eg D hD hp
  clear hr hu0 hp hD
  go_enter Try.func41, Try.ntmps41
  go_wp2_with fail
  (with_reducible refine hs.mono ?_)
  rintro e w' ⟨rfl, hR, hb⟩
  have HO := Aside0.mk hR
  have HB2 := Aside0.mk hb
  clear hR hb hs
  go_wp2
  exact bodyPost_end (by simp [results, Try.results41, go_sem]) rfl ⟨rfl, HO.out, HB2.out⟩

end Go.Proofs.Ytecpojiinappcaa.H
