/-
  'Rows.NatDivSaid' ('yellow/law.NatDiv'). The frame is the skeleton tool's, with the sized builder.
-/
import Derived.Test.YgcsafDiv
import Derived.Test.YgcsafMul
import Derived.Test.YgcsafLow
import Derived.Test.YgcsafNormal
import Derived.Test.YgcsafOpen
namespace Go.Proofs.Ygcsaf.natDiv
open Go.ChangeShapes Go.WideShapes Go.ChangeAt Go.RowKit
set_option linter.unusedVariables false
set_option linter.unusedSimpArgs false

set_option maxHeartbeats 400000 in
theorem holds_zero (w : World) (xa ya : Option Addr) (la ca lb cb : Nat) (B : List Nat) (hb : Rd w ya lb B) (hlb : lb ≤ cb) (hcb : cb ≤ 140737488351232) (hz : Hid (D.val B = 0)) :
    Calls Safg.prog 38 #[.slice xa la ca, .slice ya lb cb, .slice none 0 0, .slice none 0 0, .bool false] w fun e w' => e = .returned (.bool true) ∧ Below w.heap.size w w' := by
  have q30 := eqnil30
  have HT : Hid (D.trimL B = []) := (D.trimL_nm B).zero (by rw [D.trimL_val]; exact hz.out)
  go_enter Safg.func38, Safg.ntmps38
  go_wp2_with fail
  refine (lowDigits_any _ _ _ _ B hb hlb (by omega)).mono ?_
  rintro e w1 ⟨rfl, hw⟩
  subst hw
  rw [HT.out]
  go_wp2
  go_ret
  exact ⟨rfl, Below.refl _ _⟩

set_option maxHeartbeats 400000 in
theorem holds_pos (w : World) (xa ya qa ra : Option Addr) (la ca lb cb : Nat) (A B Q R : List Nat) (ha : Rd w xa la A) (hb : Rd w ya lb B) (hla : la ≤ ca) (hlb : lb ≤ cb) (hca : ca ≤ 140737488351232) (hcb : cb ≤ 140737488351232)
    (hpos : 0 < D.val B) (hq : IsNat w qa Q) (hr : IsNat w ra R) (hv : Hid (D.val A = D.val Q * D.val B + D.val R)) (hlt : Hid (D.val R < D.val B)) (lq : Q.length ≤ la) (lr : R.length ≤ lb + 1) :
    Calls Safg.prog 38 #[.slice xa la ca, .slice ya lb cb, .slice qa Q.length Q.length, .slice ra R.length R.length, .bool true] w fun e w' => e = .returned (.bool true) ∧ Below w.heap.size w w' := by
  have hT : ¬ (D.trimL B).length = 0 := by
    intro h
    have h1 := D.trimL_val B
    rw [List.length_eq_zero_iff.1 h] at h1
    simp [D.val] at h1
    omega
  have hT' : ((((D.trimL B).length : Nat) : Int) == 0) = false := by simpa using hT
  go_enter Safg.func38, Safg.ntmps38
  go_wp2_with fail
  refine (lowDigits_any _ _ _ _ B hb hlb (by omega)).mono ?_
  rintro e w1 ⟨rfl, hw⟩
  subst hw
  go_wp2_with fail
  refine (normal_true _ _ _ Q hq (Nat.le_refl _) (by omega)).mono ?_
  rintro e w2 ⟨rfl, hw⟩
  subst hw
  go_wp2_with fail
  refine (normal_true _ _ _ R hr (Nat.le_refl _) (by omega)).mono ?_
  rintro e w3 ⟨rfl, hw⟩
  subst hw
  go_wp2_with fail
  refine (cmp_any _ _ _ _ _ _ _ R B hr.rd hb (Nat.le_refl _) hlb (by omega) (by omega)).mono ?_
  rintro e w4 ⟨rfl, hs4⟩
  rw [D.cmpN_lt hlt.out]
  have b4 := hs4.below w3.heap.size
  have ha4 := ha.below b4
  have hb4 := hb.below b4
  have hq4 := hq.below b4
  have hr4 := hr.below b4
  go_wp2_with fail
  refine (mul_any _ _ _ _ _ _ _ Q B hq4.rd hb4 (Nat.le_refl _) hlb (by omega) (by omega) (by omega)).mono ?_
  rintro e w5 ⟨pa, P, rfl, hpm, hpv, hpl, b5⟩
  have HP : Hid (D.val P = D.val Q * D.val B) := hpv
  clear hpv
  go_wp2_with fail
  refine (add_any _ _ _ _ _ _ _ P R hpm.nat.rd (hr4.rd.below b5) (Nat.le_refl _) (Nat.le_refl _) (by omega) (by omega)).mono ?_
  rintro e w6 ⟨sa, S, rfl, hsm, hsv, hsl, b6⟩
  have HS : Hid (S = D.trimL A) := D.ext hsm.nat.rd.dig (D.trimL_dig ha.dig) hsm.nat.nm (D.trimL_nm A) (by rw [hsv, HP.out, D.trimL_val, hv.out])
  clear hsv
  have ha6 := (ha4.below b5).below b6
  go_wp2_with fail
  refine (lowDigits_any _ _ _ _ A ha6 hla (by omega)).mono ?_
  rintro e w7 ⟨rfl, hw⟩
  subst hw
  go_wp2_with fail
  refine (equalBytes_any _ _ _ _ _ _ _ S (D.trimL A) hsm.nat.rd ha6.trim).mono ?_
  rintro e w8 ⟨rfl, hw⟩
  subst hw
  rw [decide_eq_true HS.out]
  go_wp2
  go_ret
  exact ⟨rfl, (b4.trans (b5.mono b4.size)).trans (b6.mono (Nat.le_trans b4.size b5.size))⟩

set_option maxHeartbeats 400000 in
/-- What stands behind DivMod and its test. -/
theorem walk (xa ya : Option Addr) (la ca lb cb : Nat) (A B : List Nat) (w : World) (ha : Rd w xa la A) (hb : Rd w ya lb B) (hla : la ≤ ca) (hlb : lb ≤ cb) (hca : ca ≤ 140737488351232) (hcb : cb ≤ 140737488351232) :
    Calls Safg.prog 11 #[.slice xa la ca, .slice ya lb cb] w fun e w' => e = .returned (.bool true) ∧ Below w.heap.size w w' := by
  have q61 := eqnil61
  go_enter Safg.func11, Safg.ntmps11
  go_wp2_with fail
  refine (divMod_any _ _ _ _ _ _ _ A B ha hb hla hlb (by omega) (by omega)).mono ?_
  rintro e w1 ⟨b1, hcase⟩
  have ha1 := ha.below b1
  have hb1 := hb.below b1
  rcases hcase with ⟨hz, rfl⟩ | ⟨hpos, qa, Q, ra, R, rfl, hqm, hrm, hv, hlt, lq, lr⟩
  · have HZ : Hid (D.val B = 0) := hz
    clear hz
    go_wp2_with fail
    refine (holds_zero _ _ _ _ _ _ _ B hb1 hlb hcb HZ).mono ?_
    rintro e w2 ⟨rfl, b2⟩
    have b02 := b1.trans (b2.mono b1.size)
    have ha2 := ha1.below b2
    have hb2 := hb1.below b2
    clear b1 b2 ha1 hb1
    go_wp2_with fail
    refine (sub_any _ _ _ _ _ _ _ A B ha2 hb2 hla hlb (by omega) (by omega)).mono ?_
    rintro e w3 ⟨b3, hcase⟩
    have b03 := b02.trans (b3.mono b02.size)
    have ha3 := ha2.below b3
    have hb3 := hb2.below b3
    rcases hcase with ⟨hlt, rfl⟩ | ⟨hle, da, Dd, rfl, hdm, hdv, hdl⟩
    · have := HZ.out; omega
    · have HD : Hid (D.val Dd = D.val A - D.val B) := hdv
      clear hdv
      go_wp2_with fail
      refine (cmp_any _ _ _ _ _ _ _ A B ha3 hb3 hla hlb (by omega) (by omega)).mono ?_
      rintro e w4 ⟨rfl, hs4⟩
      obtain ⟨cv, hcv, hcv0⟩ : ∃ cv, D.cmpN (D.val A) (D.val B) = cv ∧ 0 ≤ cv := ⟨_, rfl, by unfold D.cmpN; rw [if_neg (by omega)]; split <;> omega⟩
      rw [hcv]
      clear hcv
      have hd : decide (0 ≤ cv) = true := decide_eq_true hcv0
      have b4 := hs4.below w3.heap.size
      have ha4 := ha3.below b4
      have hb4 := hb3.below b4
      have hd4 := hdm.nat.below b4
      go_wp2_with fail
      refine (add_any _ _ _ _ _ _ _ Dd B hd4.rd hb4 (Nat.le_refl _) hlb (by omega) (by omega)).mono ?_
      rintro e w5 ⟨sa, S, rfl, hsm, hsv, hsl, b5⟩
      have HS : Hid (S = D.trimL A) := D.ext hsm.nat.rd.dig (D.trimL_dig ha.dig) hsm.nat.nm (D.trimL_nm A) (by rw [hsv, HD.out, D.trimL_val]; omega)
      clear hsv
      have ha5 := ha4.below b5
      go_wp2_with fail
      refine (lowDigits_any _ _ _ _ A ha5 hla (by omega)).mono ?_
      rintro e w6 ⟨rfl, hw⟩
      subst hw
      go_wp2_with fail
      refine (equalBytes_any _ _ _ _ _ _ _ S (D.trimL A) hsm.nat.rd ha5.trim).mono ?_
      rintro e w7 ⟨rfl, hw⟩
      subst hw
      rw [decide_eq_true HS.out]
      go_wp2
      go_ret
      exact ⟨rfl, (b03.trans (b4.mono b03.size)).trans (b5.mono (Nat.le_trans b03.size b4.size))⟩
  · have HV : Hid (D.val A = D.val Q * D.val B + D.val R) := hv
    have HLT : Hid (D.val R < D.val B) := hlt
    clear hv hlt
    go_wp2_with fail
    refine (holds_pos _ _ _ _ _ _ _ _ _ A B Q R ha1 hb1 hla hlb hca hcb hpos hqm.nat hrm.nat HV HLT lq lr).mono ?_
    rintro e w2 ⟨rfl, b2⟩
    have b02 := b1.trans (b2.mono b1.size)
    have ha2 := ha1.below b2
    have hb2 := hb1.below b2
    clear b1 b2 ha1 hb1
    go_wp2_with fail
    refine (sub_any _ _ _ _ _ _ _ A B ha2 hb2 hla hlb (by omega) (by omega)).mono ?_
    rintro e w3 ⟨b3, hcase⟩
    have b03 := b02.trans (b3.mono b02.size)
    have ha3 := ha2.below b3
    have hb3 := hb2.below b3
    rcases hcase with ⟨hlt, rfl⟩ | ⟨hle, da, Dd, rfl, hdm, hdv, hdl⟩
    · go_wp2_with fail
      refine (cmp_any _ _ _ _ _ _ _ A B ha3 hb3 hla hlb (by omega) (by omega)).mono ?_
      rintro e w4 ⟨rfl, hs4⟩
      rw [D.cmpN_lt hlt]
      go_wp2
      go_ret
      exact ⟨rfl, b03.trans (hs4.below _)⟩
    · have HD : Hid (D.val Dd = D.val A - D.val B) := hdv
      clear hdv
      go_wp2_with fail
      refine (cmp_any _ _ _ _ _ _ _ A B ha3 hb3 hla hlb (by omega) (by omega)).mono ?_
      rintro e w4 ⟨rfl, hs4⟩
      obtain ⟨cv, hcv, hcv0⟩ : ∃ cv, D.cmpN (D.val A) (D.val B) = cv ∧ 0 ≤ cv := ⟨_, rfl, by unfold D.cmpN; rw [if_neg (by omega)]; split <;> omega⟩
      rw [hcv]
      clear hcv
      have hd : decide (0 ≤ cv) = true := decide_eq_true hcv0
      have b4 := hs4.below w3.heap.size
      have ha4 := ha3.below b4
      have hb4 := hb3.below b4
      have hd4 := hdm.nat.below b4
      go_wp2_with fail
      refine (add_any _ _ _ _ _ _ _ Dd B hd4.rd hb4 (Nat.le_refl _) hlb (by omega) (by omega)).mono ?_
      rintro e w5 ⟨sa, S, rfl, hsm, hsv, hsl, b5⟩
      have HS : Hid (S = D.trimL A) := D.ext hsm.nat.rd.dig (D.trimL_dig ha.dig) hsm.nat.nm (D.trimL_nm A) (by rw [hsv, HD.out, D.trimL_val]; omega)
      clear hsv
      have ha5 := ha4.below b5
      go_wp2_with fail
      refine (lowDigits_any _ _ _ _ A ha5 hla (by omega)).mono ?_
      rintro e w6 ⟨rfl, hw⟩
      subst hw
      go_wp2_with fail
      refine (equalBytes_any _ _ _ _ _ _ _ S (D.trimL A) hsm.nat.rd ha5.trim).mono ?_
      rintro e w7 ⟨rfl, hw⟩
      subst hw
      rw [decide_eq_true HS.out]
      go_wp2
      go_ret
      exact ⟨rfl, (b03.trans (b4.mono b03.size)).trans (b5.mono (Nat.le_trans b03.size b4.size))⟩
set_option maxRecDepth 100000 in
theorem lifted (os : Os) (started : os.Started) (H : Type) (enc : TypeId × Value → H) :
    ReturnsInHanded {} Safg.checked os 11 .any (Rows.natDivSpec.pre6 enc Safg.prog Safg.f11 Rows.natDivRow.domain false) (Rows.natDivSpec.post enc Safg.prog Safg.f11 false true false false) := by
  refine returnsInHanded_of_change_sized (C := Safg.checked) own started (by kernel_rfl) Safg.func11
    (ChangeSpec.witness6 (enc := enc) (C := Safg.checked) false ⟨#[], #[.slice none 0 0, .slice none 0 0], []⟩ 8 (by kernel_rfl) (by kernel_rfl) (by kernel_rfl) (by kernel_rfl)) ?_
  intro W base args ds gs before hval0 hW hcnd hsz0 _
  have hsz : (DataW.weightsEach Safg.prog (Safg.f11.params.toList ++ Rows.natDivSpec.plain.varTypes Safg.prog) (ds ++ gs)).all (· ≤ reachBytes) = true := hsz0
  have hval : ∀ (j : Nat) t v, Safg.f11.params[j]? = some t → args[j]? = some v → Value.okWide Safg.prog W .any base t v := hval0
  have hW' := hW
  obtain ⟨p, q, hA0, hV, rfl, hfz, hnd⟩ := hW
  have hA : DataW.TrodAll enc Safg.prog W 0 (fun _ => true) true Safg.f11.params.toList args.toList ds p := hA0
  rw [Safg.params11] at hA hval hsz
  obtain ⟨v0, vs0, d0, ds0, p0, q0, hargs, rfl, rfl, h0, r0⟩ := trodAll_cons hA
  obtain ⟨v1, vs1, d1, ds1, p1, q1, rfl, rfl, rfl, h1, r1⟩ := trodAll_cons r0
  obtain ⟨rfl, rfl, rfl⟩ := trodAll_nil r1
  obtain rfl : args = #[v0, v1] := by cases args; simp_all
  obtain ⟨rfl, rfl⟩ := trodVars_none hV
  obtain ⟨a0, len0, cap0, rfl⟩ := okWide_slice Safg.underlying30 (hval 0 30 v0 rfl rfl)
  obtain ⟨a1, len1, cap1, rfl⟩ := okWide_slice Safg.underlying30 (hval 1 30 v1 rfl rfl)
  have k0 := h0
  have k1 := h1
  have lt0 : ∀ x ∈ p0, x.block < W.heap.size := by obtain ⟨m, hm⟩ := k0; exact DataW.trod_lt m _ _ _ hm
  have lt1 : ∀ x ∈ p1, x.block < W.heap.size := by obtain ⟨m, hm⟩ := k1; exact DataW.trod_lt m _ _ _ hm
  obtain ⟨l0, hl0, hlc0, hcm0⟩ := open_bytes h0 (fun elems spare e => sized_slice hsz (j := 0) (t := 30) (e := 5) rfl (by rw [e]; rfl) Safg.underlying30)
  obtain ⟨l1, hl1, hlc1, hcm1⟩ := open_bytes h1 (fun elems spare e => sized_slice hsz (j := 1) (t := 30) (e := 5) rfl (by rw [e]; rfl) Safg.underlying30)
  clear hA0 hval0 hsz0
  refine (walk a0 a1 len0 cap0 len1 cap1 l0 l1 W hl0 hl1 hlc0 hlc1 hcm0 hcm1).mono fun e W' ⟨he, bel⟩ => ?_
  subst he
  exact ⟨_, rfl, _, _, _, [], _, [], hW', trodAll_mk1 (shut_bool Safg.underlying4 _), (trodAll_cons_mk (Below.trod laidOut (by kernel_rfl) (of_decide_eq_true (by kernel_rfl)) k0 bel lt0) (trodAll_cons_mk (Below.trod laidOut (by kernel_rfl) (of_decide_eq_true (by kernel_rfl)) k1 bel lt1) trodAll_mk0)), rfl, bel.frame _, fun h => by cases h⟩

theorem over : Rows.natDivRow.holds Safg.pinned (OpenSpec.ofChange Rows.natDivSpec) :=
  OpenClaim.holds_of_wide 11 Safg.f11 rfl rfl rfl rfl rfl rfl rfl ⟨rfl, rfl, rfl, rfl, rfl⟩ rfl rfl rfl rfl rfl (by kernel_rfl) Safg.func11 (by kernel_rfl)
    (of_decide_eq_true (by kernel_rfl)) (by unfold Func.isWrapper; first | (rw [if_pos (by decide +kernel)]; kernel_rfl) | (rw [if_neg (by decide +kernel)]; exact ⟨rfl, rfl⟩))
    (fun os started H enc _ => lifted os started H enc)

/-- THE STATEMENT -/
theorem proved : Rows.NatDivSaid := over
#print axioms proved
end Go.Proofs.Ygcsaf.natDiv
