import Derived.Test.YtecpojiinappcaaHK
import Derived.Test.YtecpojiinappcaaHPva
import Derived.Test.YtecpojiinappcaaHPs
namespace Go.Proofs.Ytecpojiinappcaa.H
open Go.RowKit Go.Proofs.YtecpojiinappcaaW.PrintWords Go.Proofs.YtecpojiinappcaaW.PrintLast Go.Proofs.YtecpojiinappcaaW.PrintMore
set_option linter.unusedVariables false
set_option linter.unusedSimpArgs false
/-! PondRights, PondTakes, PondFills -/
attribute [local go_sem] undef
theorem SamePond_n (n : Nat) (A0 : Option Addr) (c0 : Nat) (l : List SPond) (B0 : Option Addr) (d0 : Nat) (w : World) (hn : l.length = n) (hr0 : Kd.C kPond w A0 n l) (hr1 : Kd.C kPond w B0 n l) :
    Calls Try.prog 19 #[.slice A0 n c0, .slice B0 n d0] w fun e w' => e = .returned (.bool true) ∧ Up w w' := by
  subst hn; exact SamePond_c A0 c0 l B0 d0 l true w (samePS_refl l) hr0 hr1
set_option maxHeartbeats 16000000 in
theorem PondRights_c (A0 : Option Addr) (c0 : Nat) (l : List SPond) (w : World) (hr0 : Kd.C kPond w A0 l.length l) (hc0 : l.length ≤ c0) :
    Calls Try.prog 3 #[.slice A0 l.length c0] w fun e w' => e = .returned (.bool true) ∧ Up w w' := by
  have HR := Aside0.mk hr0
  have HC := Aside0.mk hc0
  have HB := Up.refl w
  clear hr0 hc0
  go_enter Try.func3, Try.ntmps3
  go_wp2_with fail
  (with_reducible refine (alive_c _).mono ?_)
  rintro e w1 ⟨rfl, HB1⟩
  by_cases hn : (40 : Int) < l.length
  · replace hn := decide_eq_true hn
    go_wp2
    go_ret
    exact ⟨rfl, HB1⟩
  replace hn := decide_eq_false hn
  obtain ⟨r, hr⟩ : ∃ r, ponR l = r := ⟨_, rfl⟩
  have HS := Aside0.mk hr
  clear hr
  go_wp2_with fail
  (with_reducible refine (PonRight_c A0 c0 l _ r HS.out (C_up HR.out HB1) HC.out).mono ?_)
  rintro e w2 ⟨rfl, hb⟩
  have HB2 := Up.step HB1 hb
  clear hb
  go_wp2_with fail
  (with_reducible refine (PonRightR_c A0 c0 l _ r HS.out (C_up HR.out HB2)).mono ?_)
  rintro e w3 ⟨rfl, hb⟩
  have HB3 := Up.step HB2 hb
  clear hb
  have hrr : (r == r) = true := beq_self_eq_true r
  obtain ⟨b, hb⟩ : ∃ b, (ponR l == 0) = b := ⟨_, rfl⟩
  have HL := Aside0.mk hb
  clear hb
  go_wp2_with fail
  (with_reducible refine (lawRight_c A0 c0 l _ b HL.out (C_up HR.out HB3)).mono ?_)
  rintro e w4 ⟨rfl, hb⟩
  have HB4 := Up.step HB3 hb
  clear hb
  cases b
  · go_wp2
    go_ret
    exact ⟨by simp, HB4⟩
  have HP := Aside0.mk (ponR_ok (beq_iff_eq.1 HL.out))
  obtain ⟨s, hs⟩ : ∃ s, spareS l = s := ⟨_, rfl⟩
  have HSP := Aside0.mk hs
  obtain ⟨t, ht⟩ : ∃ t, totalS l = t := ⟨_, rfl⟩
  have HTT := Aside0.mk ht
  clear hs ht
  go_wp2_with fail
  (with_reducible refine (Spare_c A0 c0 l _ s HSP.out HP.out (C_up HR.out HB4)).mono ?_)
  rintro e w5 ⟨rfl, hb⟩
  have HB5 := Up.step HB4 hb
  clear hb
  go_wp2_with fail
  (with_reducible refine (SpareR_c A0 c0 l _ s HSP.out HP.out (C_up HR.out HB5)).mono ?_)
  rintro e w6 ⟨rfl, hb⟩
  have HB6 := Up.step HB5 hb
  clear hb
  have hss : (s == s) = true := beq_self_eq_true s
  go_wp2_with fail
  (with_reducible refine (Total_c A0 c0 l _ t HTT.out HP.out (C_up HR.out HB6)).mono ?_)
  rintro e w7 ⟨rfl, hb⟩
  have HB7 := Up.step HB6 hb
  clear hb
  go_wp2_with fail
  (with_reducible refine (TotalR_c A0 c0 l _ t HTT.out HP.out (C_up HR.out HB7)).mono ?_)
  rintro e w8 ⟨rfl, hb⟩
  have HB8 := Up.step HB7 hb
  clear hb
  have htt : (t == t) = true := beq_self_eq_true t
  go_wp2
  go_ret
  exact ⟨by simp, HB8⟩
set_option maxHeartbeats 16000000 in
theorem PondTakes_c (A0 : Option Addr) (c0 : Nat) (l : List SPond) (x : Int) (w : World) (hr0 : Kd.C kPond w A0 l.length l) :
    Calls Try.prog 4 #[.slice A0 l.length c0, .int .i64 x] w fun e w' => e = .returned (.bool true) ∧ Up w w' := by
  have HR := Aside0.mk hr0
  have HB := Up.refl w
  clear hr0
  go_enter Try.func4, Try.ntmps4
  go_wp2_with fail
  (with_reducible refine (alive_c _).mono ?_)
  rintro e w1 ⟨rfl, HB1⟩
  obtain ⟨b, hb⟩ : ∃ b, (ponR l == 0) = b := ⟨_, rfl⟩
  have HL := Aside0.mk hb
  clear hb
  go_wp2_with fail
  (with_reducible refine (lawRight_c A0 c0 l _ b HL.out (C_up HR.out HB1)).mono ?_)
  rintro e w2 ⟨rfl, hb⟩
  have HB2 := Up.step HB1 hb
  clear hb
  cases b
  · go_wp2
    go_ret
    exact ⟨rfl, HB2⟩
  have HP := Aside0.mk (ponR_ok (beq_iff_eq.1 HL.out))
  obtain ⟨R, er, ht⟩ : ∃ (R : List SPond) (e : Int), takeS l x = (R, e) := ⟨_, _, rfl⟩
  have HT := Aside0.mk ht
  clear ht
  go_wp2_with fail
  (with_reducible refine (Take_c A0 c0 l x _ R er HT.out HP.out (C_up HR.out HB2)).mono ?_)
  rintro e w3 ⟨v, rfl, hR, hb⟩
  obtain ⟨AA, ac, rfl, -, hC⟩ := Kd.R_reads hR
  have HA := Aside0.mk hC
  have HB3 := Up.step HB2 hb
  clear hb hR hC
  go_wp2_with fail
  (with_reducible refine (TakeR_c A0 c0 l x _ R er HT.out HP.out (C_up HR.out HB3)).mono ?_)
  rintro e w4 ⟨v, rfl, hR, hb⟩
  obtain ⟨BA, bc, rfl, -, hC⟩ := Kd.R_reads hR
  have HA := Aside0.mk (C_up HA.out hb)
  have HC2 := Aside0.mk hC
  have HB4 := Up.step HB3 hb
  clear hb hR hC
  have hrr : (er == er) = true := beq_self_eq_true er
  go_wp2_with fail
  (with_reducible refine (SamePond_n R.length AA ac R BA bc _ rfl HA.out HC2.out).mono ?_)
  rintro e w5 ⟨rfl, hb⟩
  have HB5 := Up.step HB4 hb
  clear hb
  go_wp2
  go_ret
  exact ⟨by simp, HB5⟩
set_option maxHeartbeats 16000000 in
theorem PondFills_c (A0 : Option Addr) (c0 : Nat) (l : List SPond) (x : Int) (w : World) (hr0 : Kd.C kPond w A0 l.length l) :
    Calls Try.prog 5 #[.slice A0 l.length c0, .int .i64 x] w fun e w' => e = .returned (.bool true) ∧ Up w w' := by
  have HR := Aside0.mk hr0
  have HB := Up.refl w
  clear hr0
  go_enter Try.func5, Try.ntmps5
  go_wp2_with fail
  (with_reducible refine (alive_c _).mono ?_)
  rintro e w1 ⟨rfl, HB1⟩
  obtain ⟨b, hb⟩ : ∃ b, (ponR l == 0) = b := ⟨_, rfl⟩
  have HL := Aside0.mk hb
  clear hb
  go_wp2_with fail
  (with_reducible refine (lawRight_c A0 c0 l _ b HL.out (C_up HR.out HB1)).mono ?_)
  rintro e w2 ⟨rfl, hb⟩
  have HB2 := Up.step HB1 hb
  clear hb
  cases b
  · go_wp2
    go_ret
    exact ⟨rfl, HB2⟩
  have HP := Aside0.mk (ponR_ok (beq_iff_eq.1 HL.out))
  obtain ⟨R, m, er, ht⟩ : ∃ (R : List SPond) (m e : Int), fillS l x = (R, m, e) := ⟨_, _, _, rfl⟩
  have HT := Aside0.mk ht
  clear ht
  go_wp2_with fail
  (with_reducible refine (Fill_c A0 c0 l x _ R m er HT.out HP.out (C_up HR.out HB2)).mono ?_)
  rintro e w3 ⟨v, rfl, hR, hb⟩
  obtain ⟨AA, ac, rfl, -, hC⟩ := Kd.R_reads hR
  have HA := Aside0.mk hC
  have HB3 := Up.step HB2 hb
  clear hb hR hC
  go_wp2_with fail
  (with_reducible refine (FillR_c A0 c0 l x _ R m er HT.out HP.out (C_up HR.out HB3)).mono ?_)
  rintro e w4 ⟨v, rfl, hR, hb⟩
  obtain ⟨BA, bc, rfl, -, hC⟩ := Kd.R_reads hR
  have HA := Aside0.mk (C_up HA.out hb)
  have HC2 := Aside0.mk hC
  have HB4 := Up.step HB3 hb
  clear hb hR hC
  have hrr : (er == er) = true := beq_self_eq_true er
  have hmm : (m == m) = true := beq_self_eq_true m
  go_wp2_with fail
  (with_reducible refine (SamePond_n R.length AA ac R BA bc _ rfl HA.out HC2.out).mono ?_)
  rintro e w5 ⟨rfl, hb⟩
  have HB5 := Up.step HB4 hb
  clear hb
  go_wp2
  go_ret
  exact ⟨by simp, HB5⟩

end Go.Proofs.Ytecpojiinappcaa.H
