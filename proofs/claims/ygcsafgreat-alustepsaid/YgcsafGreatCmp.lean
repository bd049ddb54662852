import Derived.Test.YgcsafGreatAdd
import Derived.Test.YgcsafGreatDigits2
namespace Go.Proofs.YgcsafGreat
open Go.RowKit
set_option linter.unusedVariables false
set_option linter.unusedSimpArgs false

/-- The same but for what was drawn. -/
structure Same (w w' : World) : Prop where
  heap : w'.heap = w.heap
  os : w'.os = w.os
  tape : w'.tape = w.tape
  output : w'.output = w.output
theorem Same.refl (w : World) : Same w w := ⟨rfl, rfl, rfl, rfl⟩
theorem Same.trans {a b c : World} (h : Same a b) (k : Same b c) : Same a c := ⟨k.heap.trans h.heap, k.os.trans h.os, k.tape.trans h.tape, k.output.trans h.output⟩
theorem Same.drewN (w : World) (n : Nat) : Same w (w.drewN n) := ⟨rfl, rfl, rfl, rfl⟩
theorem Same.only {w w' : World} (h : Same w w') (g : Nat) : Only g w w' := ⟨h.os, h.tape, h.output, by rw [h.heap], fun k _ => by rw [h.heap]⟩
theorem Same.below {w w' : World} (h : Same w w') (B : Nat) : Below B w w' := ⟨h.os, h.tape, h.output, by rw [h.heap]; exact Nat.le_refl _, fun k _ => by rw [h.heap]⟩
theorem Same.cell {w w' : World} (h : Same w w') (p : Addr) : w'.cell? p = w.cell? p := by unfold World.cell?; rw [h.heap]
theorem Same.frozen {w w' : World} (h : Same w w') (p : Addr) : w'.frozen? p = w.frozen? p := by unfold World.frozen?; rw [h.heap]
theorem Same.own {w w' : World} (h : Same w w') {g : Nat} {L : List Nat} (ho : Own w g L) : Own w' g L :=
  ⟨by rw [h.heap]; exact ho.lt, fun j hj => by rw [h.cell]; exact ho.cell j hj, fun o => by rw [h.frozen]; exact ho.free o⟩

set_option maxHeartbeats 1000000 in
theorem cmp_any (w : World) (xa ya : Option Addr) (la ca lb cb : Nat) (A B : List Nat) (ha : Rd w xa la A) (hb : Rd w ya lb B) (hla : la ≤ ca) (hlb : lb ≤ cb) (hca : ca ≤ 9223372036854775807) (hcb : cb ≤ 9223372036854775807) :
    Calls Safg.prog 108 #[.slice xa la ca, .slice ya lb cb] w fun e w' => e = .returned (.int .i8 (D.cmpN (D.val A) (D.val B))) ∧ Same w w' := by
  have hal := ha.length
  have hbl := hb.length
  have htA := D.trimL_len A
  have htB := D.trimL_len B
  have hrX := ha.trim
  have hrY := hb.trim
  have hnX := D.trimL_nm A
  have hnY := D.trimL_nm B
  have HVA : Hid (D.val A = D.val (D.trimL A)) := (D.trimL_val A).symm
  have HVB : Hid (D.val B = D.val (D.trimL B)) := (D.trimL_val B).symm
  go_enter Safg.func108, Safg.ntmps108
  go_upto_region 2 with (go_at_call 96; refine (trim_any _ _ _ _ A ha hla (by omega)).mono ?_; rintro e w' ⟨rfl, hw⟩; subst hw)
  go_upto_region 3 with (go_at_call 96; refine (trim_any _ _ _ _ B hb hlb (by omega)).mono ?_; rintro e w1 ⟨rfl, hw⟩; subst hw)
  generalize D.trimL A = X at *
  generalize D.trimL B = Y at *
  by_cases hlt : X.length < Y.length
  · have HC : Hid (D.cmpN (D.val A) (D.val B) = -1) := by show _ = _; rw [HVA.out, HVB.out]; exact D.cmpN_lt (D.lt_of_len hrX.dig hnY hlt)
    go_wp2
    go_ret
    exact ⟨ret_int HC.out.symm, Same.refl _⟩
  by_cases hgt : Y.length < X.length
  · have HC : Hid (D.cmpN (D.val A) (D.val B) = 1) := by show _ = _; rw [HVA.out, HVB.out]; exact D.cmpN_gt (D.lt_of_len hrY.dig hnX hgt)
    go_wp2
    go_ret
    exact ⟨ret_int HC.out.symm, Same.refl _⟩
  go_upto_region 8 with fail
  go_loopw [5] (fun i wr => ∃ (k : Nat), k ≤ X.length ∧ i = .int .i64 k ∧ Same w1 wr ∧ D.val (X.drop k) = D.val (Y.drop k)) (fun i _ => (intOf i).toNat)
  case atStart => 
    refine ⟨X.length, Nat.le_refl _, rfl, Same.refl _, ?_⟩
    rw [List.drop_of_length_le (Nat.le_refl _), List.drop_of_length_le (by omega)]
  case round =>
    obtain ⟨k, hk, rfl, hsame, hv⟩ := hrel
    have HV : Hid (D.val (X.drop k) = D.val (Y.drop k)) := hv
    clear hv
    by_cases h0 : k = 0
    · subst h0
      have HC : Hid (D.cmpN (D.val A) (D.val B) = 0) := by show _ = _; rw [HVA.out, HVB.out]; exact D.cmpN_eq HV.out
      go_wp2
      go_ret
      exact ⟨ret_int HC.out.symm, hsame⟩
    · obtain ⟨m, rfl⟩ : ∃ m, k = m + 1 := ⟨k - 1, by omega⟩
      obtain ⟨b, off, e1, hb1, hc1⟩ := hrX.cell m (by omega)
      obtain ⟨b', off', e2, hb2, hc2⟩ := hrY.cell m (by omega)
      rw [← hsame.cell] at hc1 hc2
      have HLT : Hid (X.getD m 0 < Y.getD m 0 → D.cmpN (D.val A) (D.val B) = -1) := by intro hh; rw [HVA.out, HVB.out]; exact D.cmpN_lt (D.lt_of_digit hrX.dig (by omega) (by omega) HV.out hh)
      have HGT : Hid (Y.getD m 0 < X.getD m 0 → D.cmpN (D.val A) (D.val B) = 1) := by intro hh; rw [HVA.out, HVB.out]; exact D.cmpN_gt (D.lt_of_digit hrY.dig (by omega) (by omega) HV.out.symm hh)
      have HEQ : Hid (X.getD m 0 = Y.getD m 0 → D.val (X.drop m) = D.val (Y.drop m)) := fun hh => D.drop_succ_eq (by omega) (by omega) HV.out hh
      generalize X.getD m 0 = x at *
      generalize Y.getD m 0 = y at *
      subst e1
      subst e2
      have hmi : (m : Int) < (X.length : Int) := by omega
      have hmi2 : (m : Int) < (Y.length : Int) := by omega
      by_cases hxy : x < y
      · go_upto_region 10 with fail
        go_quiet (fail)
        go_wp2
        go_ret
        exact ⟨ret_int (HLT.out hxy).symm, hsame.trans (Same.drewN _ _)⟩
      by_cases hyx : y < x
      · go_upto_region 10 with fail
        go_quiet (fail)
        go_upto_region 12 with fail
        go_quiet (fail)
        go_wp2
        go_ret
        exact ⟨ret_int (HGT.out hyx).symm, (hsame.trans (Same.drewN _ _)).trans (Same.drewN _ _)⟩
      · go_upto_region 10 with fail
        go_quiet (fail)
        go_upto_region 12 with fail
        go_quiet (fail)
        go_wp2
        go_roundw
        case rel => exact ⟨m, by omega, rfl, hsame.trans (Same.drewN _ _), HEQ.out (by omega)⟩
        case measure => simp [intOf]
end Go.Proofs.YgcsafGreat
