/-
  'natSmallHolds' (func 29) is true of what nat answers.
-/
import Derived.Test.YgcsafNum
import Derived.Test.YgcsafDiv
import Derived.Test.YgcsafAgg
import Derived.Test.YgcsafMul
import Derived.Test.YgcsafOpen
import Derived.Deep.RegionHeld3
import Derived.Deep.DrawnRows
namespace Go.Proofs.Ygcsaf.natSmall
open Go.ChangeShapes Go.WideShapes Go.ChangeAt Go.RowKit
set_option linter.unusedVariables false
set_option linter.unusedSimpArgs false
attribute [local go_sem ↓] Go.wp_at_zero Go.wp_at_succ

/-- What nat answers of two numbers, as a value. -/
def ans (sa pa da qa ra : Option Addr) (S P Dd Q R : List Nat) (fits divides : Bool) (o : Int) : Value :=
  .agg #[.slice sa S.length S.length, .slice pa P.length P.length, .slice da Dd.length Dd.length, .slice qa Q.length Q.length, .slice ra R.length R.length, .bool fits, .bool divides, .int .i8 o]

theorem wrap_quo (a b : Nat) (ha : a < 18446744073709551616) : IntKind.u64.wrap ((a : Int) / (b : Int)) = ((a / b : Nat) : Int) := by
  have h : a / b ≤ a := Nat.div_le_self _ _
  rw [← Int.natCast_ediv]
  generalize a / b = q at *
  rw [IntKind.wrap_u64]
  omega

theorem keep3 {w6 wc wn : World} {g a b c : Nat} {x y z : Value} (hp : g < w6.heap.size) (hb : Below wc.heap.size wc wn)
    (hS : (wc.cell? ⟨g, a, none⟩ = some x ∧ wc.cell? ⟨g, b, none⟩ = some y ∧ wc.cell? ⟨g, c, none⟩ = some z) ∧ Below w6.heap.size w6 wc) :
    (wn.cell? ⟨g, a, none⟩ = some x ∧ wn.cell? ⟨g, b, none⟩ = some y ∧ wn.cell? ⟨g, c, none⟩ = some z) ∧ Below w6.heap.size w6 wn := by
  have hlt : g < wc.heap.size := Nat.lt_of_lt_of_le hp hS.2.size
  refine ⟨⟨?_, ?_, ?_⟩, hS.2.trans (hb.mono hS.2.size)⟩
  · rw [hb.cell (p := ⟨g, a, none⟩) hlt]; exact hS.1.1
  · rw [hb.cell (p := ⟨g, b, none⟩) hlt]; exact hS.1.2.1
  · rw [hb.cell (p := ⟨g, c, none⟩) hlt]; exact hS.1.2.2

set_option maxRecDepth 100000 in
set_option maxHeartbeats 2000000 in
theorem case_ft (w : World) (a b : Nat) (ha : a < 18446744073709551616) (hb : b < 18446744073709551616) (sa pa qa ra : Option Addr) (S P Q R : List Nat) (o : Int)
    (hs : IsNat w sa S) (hp : IsNat w pa P) (vs : Hid (D.val S = a + b)) (vp : Hid (D.val P = a * b)) (hab : a < b) (hq : IsNat w qa Q) (hr : IsNat w ra R) (hbp : 0 < b) (VQ : Hid (D.val Q = a / b)) (VR : Hid (D.val R = a % b))  (vo : Hid (o = D.cmpN a b)) :
    Calls Safg.prog 29 #[.int .u64 (a : Int), .int .u64 (b : Int), .agg #[.slice sa S.length S.length, .slice pa P.length P.length, .slice none 0 0, .slice qa Q.length Q.length, .slice ra R.length R.length, .bool false, .bool true, .int .i8 o]] w fun e w' => e = .returned (.bool true) ∧ Below w.heap.size w w' := by
  have q61 := nenil61
  go_enter Safg.func29, Safg.ntmps29
  go_upto_region 1 with (refine wpList_box_agg rfl 67 _ rfl [.slice sa S.length S.length, .slice pa P.length P.length, .slice none 0 0, .slice qa Q.length Q.length, .slice ra R.length R.length, .bool false, .bool true, .int .i8 o] rfl ?_; intro w1 g hg k1 b1)
  have f0 := k1.get (j := 0) rfl
  go_wp2_with fail
  refine (Add64_any _ a b ha hb).mono ?_
  rintro e w1' ⟨rfl, hw⟩
  subst hw
  go_wp2_with fail
  refine (is128_true _ _ S _ ((a + b) / 18446744073709551616) ((a + b) % 18446744073709551616) (hs.below b1) (by omega) (by omega) (by show _ = _; rw [vs.out]; omega)).mono ?_
  rintro e w2 ⟨rfl, b2⟩
  have k2 := k1.below b2 k1.lt
  have b02 := b1.trans (b2.mono b1.size)
  clear k1 b1 b2 f0
  have f1 := k2.get (j := 1) rfl
  go_wp2_with fail
  refine (Mul64_any _ a b ha hb).mono ?_
  rintro e w2' ⟨rfl, hw⟩
  subst hw
  have hm1 : a * b / 18446744073709551616 < 18446744073709551616 := by
    rw [Nat.div_lt_iff_lt_mul (by omega)]
    exact Nat.mul_lt_mul'' ha hb
  have hm2 : a * b % 18446744073709551616 < 18446744073709551616 := Nat.mod_lt _ (by omega)
  have HM : Hid (D.val P = a * b / 18446744073709551616 * 18446744073709551616 + a * b % 18446744073709551616) := by
    show _ = _
    rw [vp.out]
    have := Nat.div_add_mod (a * b) 18446744073709551616
    omega
  generalize a * b / 18446744073709551616 = mh at *
  generalize a * b % 18446744073709551616 = ml at *
  go_wp2_with fail
  refine (is128_true _ _ P _ mh ml (hp.below b02) hm1 hm2 HM).mono ?_
  rintro e w3 ⟨rfl, b3⟩
  have k3 := k2.below b3 k2.lt
  have b03 := b02.trans (b3.mono b02.size)
  clear k2 b02 b3 f1 HM
  have f2 := k3.get (j := 2) rfl
  have f3 := k3.get (j := 3) rfl
  have f4 := k3.get (j := 4) rfl
  have f5 := k3.get (j := 5) rfl
  have f6 := k3.get (j := 6) rfl
  have hge : decide ((b : Int) ≤ (a : Int)) = false := decide_eq_false (by omega)
  go_upto_region 9 with fail
  have k4 := k3
  have b04 := b03
  clear k3 b03 f2 f3 f4 f5 f6
  have f3 := k4.get (j := 3) rfl
  have f4 := k4.get (j := 4) rfl
  have f6 := k4.get (j := 6) rfl
  have hb0 : ((b : Int) == 0) = false := by simp; omega
  have hbn : ((b : Int) != 0) = true := by rw [bne_iff_ne]; omega
  go_upto_region 11 with fail
  have hg4 := k4.lt
  have hbz : ¬ b = 0 := by omega
  have hqa : a / b ≤ a := Nat.div_le_self _ _
  have HWQ : Hid (IntKind.u64.wrap ((a : Int) / (b : Int)) = ((a / b : Nat) : Int)) := wrap_quo a b ha
  have HWR : Hid ((a : Int).tmod (b : Int) = ((a % b : Nat) : Int)) := rfl
  have hra : a % b < b := Nat.mod_lt _ (by omega)
  have HQ0 : Hid (D.val Q = 0 * 18446744073709551616 + a / b) := by show _ = _; rw [VQ.out]; omega
  have HR0 : Hid (D.val R = 0 * 18446744073709551616 + a % b) := by show _ = _; rw [VR.out]; omega
  go_region_held3 (fun w' => (w'.cell? ⟨g, 3, none⟩ = some (.slice qa Q.length Q.length) ∧ w'.cell? ⟨g, 4, none⟩ = some (.slice ra R.length R.length) ∧ w'.cell? ⟨g, 6, none⟩ = some (.bool true)) ∧ Below w3.heap.size w3 w') (first | exact ⟨⟨f3, f4, f6⟩, (Below.refl _ _).drew⟩ | exact keep3 hg4 (by assumption) (by assumption))
    (first
      | (go_at_call_of 82 (Value.slice qa Q.length Q.length); rw [HWQ.out]; refine (is128_true _ _ Q _ 0 (a / b) ((hq.below b04).below ((Below.refl _ _).drew)) (by omega) (by omega) HQ0).mono ?_; rintro e w5 ⟨rfl, b5⟩)
      | (go_at_call_of 82 (Value.slice ra R.length R.length); rw [HWR.out]; refine (is128_true _ _ R _ 0 (a % b) (((hr.below b04).below ((Below.refl _ _).drew)).below b5) (by omega) (by omega) HR0).mono ?_; rintro e w6 ⟨rfl, b6⟩))
  have kd := k4.below ((Below.refl w3.heap.size w3).drew) k4.lt
  have k5 := kd.below b5 kd.lt
  have b05 := (b04.trans ((Below.refl w3.heap.size w3).drew.mono b04.size)).trans (b5.mono b04.size)
  have k6 := k5.below b6 k5.lt
  have b06 := b05.trans (b6.mono b05.size)
  have f7 := k6.get (j := 7) rfl
  have hlt : decide ((a : Int) < (b : Int)) = true := decide_eq_true (by omega)
  have hgt : decide ((b : Int) < (a : Int)) = false := decide_eq_false (by omega)
  have ho : o = -1 := by rw [vo.out]; unfold D.cmpN; rw [if_pos (by omega)]
  subst ho
  go_wp2_with fail
  go_ret
  exact ⟨rfl, b06⟩

set_option maxRecDepth 100000 in
set_option maxHeartbeats 2000000 in
theorem case_tf (w : World) (a b : Nat) (ha : a < 18446744073709551616) (hb : b < 18446744073709551616) (sa pa da : Option Addr) (S P Dd : List Nat) (o : Int)
    (hs : IsNat w sa S) (hp : IsNat w pa P) (vs : Hid (D.val S = a + b)) (vp : Hid (D.val P = a * b)) (hd : IsNat w da Dd) (hab : b ≤ a) (VD : Hid (D.val Dd = a - b)) (hbz : Hid (b = 0)) (vo : Hid (o = D.cmpN a b)) :
    Calls Safg.prog 29 #[.int .u64 (a : Int), .int .u64 (b : Int), .agg #[.slice sa S.length S.length, .slice pa P.length P.length, .slice da Dd.length Dd.length, .slice none 0 0, .slice none 0 0, .bool true, .bool false, .int .i8 o]] w fun e w' => e = .returned (.bool true) ∧ Below w.heap.size w w' := by
  have q61 := nenil61
  go_enter Safg.func29, Safg.ntmps29
  go_upto_region 1 with (refine wpList_box_agg rfl 67 _ rfl [.slice sa S.length S.length, .slice pa P.length P.length, .slice da Dd.length Dd.length, .slice none 0 0, .slice none 0 0, .bool true, .bool false, .int .i8 o] rfl ?_; intro w1 g hg k1 b1)
  have f0 := k1.get (j := 0) rfl
  go_wp2_with fail
  refine (Add64_any _ a b ha hb).mono ?_
  rintro e w1' ⟨rfl, hw⟩
  subst hw
  go_wp2_with fail
  refine (is128_true _ _ S _ ((a + b) / 18446744073709551616) ((a + b) % 18446744073709551616) (hs.below b1) (by omega) (by omega) (by show _ = _; rw [vs.out]; omega)).mono ?_
  rintro e w2 ⟨rfl, b2⟩
  have k2 := k1.below b2 k1.lt
  have b02 := b1.trans (b2.mono b1.size)
  clear k1 b1 b2 f0
  have f1 := k2.get (j := 1) rfl
  go_wp2_with fail
  refine (Mul64_any _ a b ha hb).mono ?_
  rintro e w2' ⟨rfl, hw⟩
  subst hw
  have hm1 : a * b / 18446744073709551616 < 18446744073709551616 := by
    rw [Nat.div_lt_iff_lt_mul (by omega)]
    exact Nat.mul_lt_mul'' ha hb
  have hm2 : a * b % 18446744073709551616 < 18446744073709551616 := Nat.mod_lt _ (by omega)
  have HM : Hid (D.val P = a * b / 18446744073709551616 * 18446744073709551616 + a * b % 18446744073709551616) := by
    show _ = _
    rw [vp.out]
    have := Nat.div_add_mod (a * b) 18446744073709551616
    omega
  generalize a * b / 18446744073709551616 = mh at *
  generalize a * b % 18446744073709551616 = ml at *
  go_wp2_with fail
  refine (is128_true _ _ P _ mh ml (hp.below b02) hm1 hm2 HM).mono ?_
  rintro e w3 ⟨rfl, b3⟩
  have k3 := k2.below b3 k2.lt
  have b03 := b02.trans (b3.mono b02.size)
  clear k2 b02 b3 f1 HM
  have f2 := k3.get (j := 2) rfl
  have f3 := k3.get (j := 3) rfl
  have f4 := k3.get (j := 4) rfl
  have f5 := k3.get (j := 5) rfl
  have f6 := k3.get (j := 6) rfl
  have hge : decide ((b : Int) ≤ (a : Int)) = true := decide_eq_true (by omega)
  have HS : Hid ((a : Int) - (b : Int) = ((a - b : Nat) : Int)) := by show _ = _; omega
  go_upto_region 9 with (go_at_call 82; rw [HS.out]; refine (is128_true _ _ Dd _ 0 (a - b) (hd.below b03) (by omega) (by omega) (by show _ = _; rw [VD.out]; omega)).mono ?_; rintro e w4 ⟨rfl, b4⟩; have f2' := (k3.below b4 k3.lt).get (j := 2) rfl; have f5' := (k3.below b4 k3.lt).get (j := 5) rfl)
  have k4 := k3.below b4 k3.lt
  have b04 := b03.trans (b4.mono b03.size)
  clear k3 b03 b4 f2 f3 f4 f5 f6 f2' f5'
  have f3 := k4.get (j := 3) rfl
  have f4 := k4.get (j := 4) rfl
  have f6 := k4.get (j := 6) rfl
  have hb0 : ((b : Int) == 0) = true := by rw [beq_iff_eq]; have := hbz.out; omega
  have hbn : ((b : Int) != 0) = false := by simp; exact hbz.out
  go_upto_region 11 with fail
  go_quiet (fail)
  have f7 := k4.get (j := 7) rfl
  have b06 : Below w.heap.size w (w4.drewN nq) := b04.trans ((Same.drewN w4 nq).below _)
  rcases Nat.lt_or_ge b a with h | h
  · have hlt : decide ((a : Int) < (b : Int)) = false := decide_eq_false (by omega)
    have hgt : decide ((b : Int) < (a : Int)) = true := decide_eq_true (by omega)
    have ho : o = 1 := by rw [vo.out]; unfold D.cmpN; rw [if_neg (by omega), if_pos (by omega)]
    subst ho
    go_wp2_with fail
    go_ret
    exact ⟨rfl, b06⟩
  · have hlt : decide ((a : Int) < (b : Int)) = false := decide_eq_false (by omega)
    have hgt : decide ((b : Int) < (a : Int)) = false := decide_eq_false (by omega)
    have ho : o = 0 := by rw [vo.out]; unfold D.cmpN; rw [if_neg (by omega), if_neg (by omega)]
    subst ho
    go_wp2_with fail
    go_ret
    exact ⟨rfl, b06⟩

set_option maxRecDepth 100000 in
set_option maxHeartbeats 2000000 in
theorem case_tt (w : World) (a b : Nat) (ha : a < 18446744073709551616) (hb : b < 18446744073709551616) (sa pa da qa ra : Option Addr) (S P Dd Q R : List Nat) (o : Int)
    (hs : IsNat w sa S) (hp : IsNat w pa P) (vs : Hid (D.val S = a + b)) (vp : Hid (D.val P = a * b)) (hd : IsNat w da Dd) (hab : b ≤ a) (VD : Hid (D.val Dd = a - b)) (hq : IsNat w qa Q) (hr : IsNat w ra R) (hbp : 0 < b) (VQ : Hid (D.val Q = a / b)) (VR : Hid (D.val R = a % b))  (vo : Hid (o = D.cmpN a b)) :
    Calls Safg.prog 29 #[.int .u64 (a : Int), .int .u64 (b : Int), .agg #[.slice sa S.length S.length, .slice pa P.length P.length, .slice da Dd.length Dd.length, .slice qa Q.length Q.length, .slice ra R.length R.length, .bool true, .bool true, .int .i8 o]] w fun e w' => e = .returned (.bool true) ∧ Below w.heap.size w w' := by
  have q61 := nenil61
  go_enter Safg.func29, Safg.ntmps29
  go_upto_region 1 with (refine wpList_box_agg rfl 67 _ rfl [.slice sa S.length S.length, .slice pa P.length P.length, .slice da Dd.length Dd.length, .slice qa Q.length Q.length, .slice ra R.length R.length, .bool true, .bool true, .int .i8 o] rfl ?_; intro w1 g hg k1 b1)
  have f0 := k1.get (j := 0) rfl
  go_wp2_with fail
  refine (Add64_any _ a b ha hb).mono ?_
  rintro e w1' ⟨rfl, hw⟩
  subst hw
  go_wp2_with fail
  refine (is128_true _ _ S _ ((a + b) / 18446744073709551616) ((a + b) % 18446744073709551616) (hs.below b1) (by omega) (by omega) (by show _ = _; rw [vs.out]; omega)).mono ?_
  rintro e w2 ⟨rfl, b2⟩
  have k2 := k1.below b2 k1.lt
  have b02 := b1.trans (b2.mono b1.size)
  clear k1 b1 b2 f0
  have f1 := k2.get (j := 1) rfl
  go_wp2_with fail
  refine (Mul64_any _ a b ha hb).mono ?_
  rintro e w2' ⟨rfl, hw⟩
  subst hw
  have hm1 : a * b / 18446744073709551616 < 18446744073709551616 := by
    rw [Nat.div_lt_iff_lt_mul (by omega)]
    exact Nat.mul_lt_mul'' ha hb
  have hm2 : a * b % 18446744073709551616 < 18446744073709551616 := Nat.mod_lt _ (by omega)
  have HM : Hid (D.val P = a * b / 18446744073709551616 * 18446744073709551616 + a * b % 18446744073709551616) := by
    show _ = _
    rw [vp.out]
    have := Nat.div_add_mod (a * b) 18446744073709551616
    omega
  generalize a * b / 18446744073709551616 = mh at *
  generalize a * b % 18446744073709551616 = ml at *
  go_wp2_with fail
  refine (is128_true _ _ P _ mh ml (hp.below b02) hm1 hm2 HM).mono ?_
  rintro e w3 ⟨rfl, b3⟩
  have k3 := k2.below b3 k2.lt
  have b03 := b02.trans (b3.mono b02.size)
  clear k2 b02 b3 f1 HM
  have f2 := k3.get (j := 2) rfl
  have f3 := k3.get (j := 3) rfl
  have f4 := k3.get (j := 4) rfl
  have f5 := k3.get (j := 5) rfl
  have f6 := k3.get (j := 6) rfl
  have hge : decide ((b : Int) ≤ (a : Int)) = true := decide_eq_true (by omega)
  have HS : Hid ((a : Int) - (b : Int) = ((a - b : Nat) : Int)) := by show _ = _; omega
  go_upto_region 9 with (go_at_call 82; rw [HS.out]; refine (is128_true _ _ Dd _ 0 (a - b) (hd.below b03) (by omega) (by omega) (by show _ = _; rw [VD.out]; omega)).mono ?_; rintro e w4 ⟨rfl, b4⟩; have f2' := (k3.below b4 k3.lt).get (j := 2) rfl; have f5' := (k3.below b4 k3.lt).get (j := 5) rfl)
  have k4 := k3.below b4 k3.lt
  have b04 := b03.trans (b4.mono b03.size)
  clear k3 b03 b4 f2 f3 f4 f5 f6 f2' f5'
  have f3 := k4.get (j := 3) rfl
  have f4 := k4.get (j := 4) rfl
  have f6 := k4.get (j := 6) rfl
  have hb0 : ((b : Int) == 0) = false := by simp; omega
  have hbn : ((b : Int) != 0) = true := by rw [bne_iff_ne]; omega
  go_upto_region 11 with fail
  have hg4 := k4.lt
  have hbz : ¬ b = 0 := by omega
  have hqa : a / b ≤ a := Nat.div_le_self _ _
  have HWQ : Hid (IntKind.u64.wrap ((a : Int) / (b : Int)) = ((a / b : Nat) : Int)) := wrap_quo a b ha
  have HWR : Hid ((a : Int).tmod (b : Int) = ((a % b : Nat) : Int)) := rfl
  have hra : a % b < b := Nat.mod_lt _ (by omega)
  have HQ0 : Hid (D.val Q = 0 * 18446744073709551616 + a / b) := by show _ = _; rw [VQ.out]; omega
  have HR0 : Hid (D.val R = 0 * 18446744073709551616 + a % b) := by show _ = _; rw [VR.out]; omega
  go_region_held3 (fun w' => (w'.cell? ⟨g, 3, none⟩ = some (.slice qa Q.length Q.length) ∧ w'.cell? ⟨g, 4, none⟩ = some (.slice ra R.length R.length) ∧ w'.cell? ⟨g, 6, none⟩ = some (.bool true)) ∧ Below w4.heap.size w4 w') (first | exact ⟨⟨f3, f4, f6⟩, (Below.refl _ _).drew⟩ | exact keep3 hg4 (by assumption) (by assumption))
    (first
      | (go_at_call_of 82 (Value.slice qa Q.length Q.length); rw [HWQ.out]; refine (is128_true _ _ Q _ 0 (a / b) ((hq.below b04).below ((Below.refl _ _).drew)) (by omega) (by omega) HQ0).mono ?_; rintro e w5 ⟨rfl, b5⟩)
      | (go_at_call_of 82 (Value.slice ra R.length R.length); rw [HWR.out]; refine (is128_true _ _ R _ 0 (a % b) (((hr.below b04).below ((Below.refl _ _).drew)).below b5) (by omega) (by omega) HR0).mono ?_; rintro e w6 ⟨rfl, b6⟩))
  have kd := k4.below ((Below.refl w4.heap.size w4).drew) k4.lt
  have k5 := kd.below b5 kd.lt
  have b05 := (b04.trans ((Below.refl w4.heap.size w4).drew.mono b04.size)).trans (b5.mono b04.size)
  have k6 := k5.below b6 k5.lt
  have b06 := b05.trans (b6.mono b05.size)
  have f7 := k6.get (j := 7) rfl
  rcases Nat.lt_or_ge b a with h | h
  · have hlt : decide ((a : Int) < (b : Int)) = false := decide_eq_false (by omega)
    have hgt : decide ((b : Int) < (a : Int)) = true := decide_eq_true (by omega)
    have ho : o = 1 := by rw [vo.out]; unfold D.cmpN; rw [if_neg (by omega), if_pos (by omega)]
    subst ho
    go_wp2_with fail
    go_ret
    exact ⟨rfl, b06⟩
  · have hlt : decide ((a : Int) < (b : Int)) = false := decide_eq_false (by omega)
    have hgt : decide ((b : Int) < (a : Int)) = false := decide_eq_false (by omega)
    have ho : o = 0 := by rw [vo.out]; unfold D.cmpN; rw [if_neg (by omega), if_neg (by omega)]
    subst ho
    go_wp2_with fail
    go_ret
    exact ⟨rfl, b06⟩

end Go.Proofs.Ygcsaf.natSmall
