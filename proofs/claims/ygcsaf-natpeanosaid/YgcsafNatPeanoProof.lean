/-
  'Rows.NatPeanoSaid' ('yellow/law.NatPeano'). The frame is the skeleton tool's, with the sized builder.
-/
import Derived.Test.YgcsafMul
import Derived.Test.YgcsafLow
import Derived.Test.YgcsafOpen
namespace Go.Proofs.Ygcsaf.natPeano
open Go.ChangeShapes Go.WideShapes Go.ChangeAt Go.RowKit
set_option linter.unusedVariables false
set_option linter.unusedSimpArgs false

set_option maxHeartbeats 400000 in
theorem peanoHolds_true (w : World) (xa sa na pa qa : Option Addr) (la ca : Nat) (A S N P Q : List Nat) (ha : Rd w xa la A) (hla : la ≤ ca) (hca : ca ≤ 140737488351232)
    (hs : IsNat w sa S) (hn : IsNat w na N) (hp : IsNat w pa P) (hq : IsNat w qa Q) (ls : S.length ≤ 140737488351240) (lp : P.length ≤ 281474976702472)
    (hN : Hid (D.val N = D.val S + 1)) (hQ : Hid (D.val Q = D.val P + D.val A)) :
    Calls Safg.prog 36 #[.slice xa la ca, .slice sa S.length S.length, .slice na N.length N.length, .slice pa P.length P.length, .slice qa Q.length Q.length] w fun e w' => e = .returned (.bool true) ∧ Below w.heap.size w w' := by
  go_enter Safg.func36, Safg.ntmps36
  go_wp2_with fail
  refine (successor_any _ _ _ _ S hs.rd (Nat.le_refl _) (by omega)).mono ?_
  rintro e w1 ⟨ta, T, rfl, htr, htn, htv, htl, b1⟩
  have HT : Hid (N = T) := D.ext hn.rd.dig htr.dig hn.nm htn (by rw [hN.out, htv])
  clear htv
  go_wp2_with fail
  refine (equalBytes_any _ _ _ _ _ _ _ N T (hn.rd.below b1) htr).mono ?_
  rintro e w2 ⟨rfl, hw⟩
  subst hw
  rw [decide_eq_true HT.out]
  go_wp2_with fail
  refine (add_any _ _ _ _ _ _ _ P A (hp.rd.below b1) (ha.below b1) (Nat.le_refl _) hla (by omega) (by omega)).mono ?_
  rintro e w3 ⟨ua, U, rfl, hum, huv, hul, b3⟩
  have HU : Hid (Q = U) := D.ext hq.rd.dig hum.nat.rd.dig hq.nm hum.nat.nm (by rw [hQ.out, huv])
  clear huv
  go_wp2_with fail
  refine (equalBytes_any _ _ _ _ _ _ _ Q U ((hq.rd.below b1).below b3) hum.nat.rd).mono ?_
  rintro e w4 ⟨rfl, hw⟩
  subst hw
  rw [decide_eq_true HU.out]
  go_wp2
  go_ret
  exact ⟨rfl, b1.trans (b3.mono b1.size)⟩

set_option maxHeartbeats 800000 in
theorem walk (xa ya : Option Addr) (la ca lb cb : Nat) (A B : List Nat) (w : World) (ha : Rd w xa la A) (hb : Rd w ya lb B) (hla : la ≤ ca) (hlb : lb ≤ cb) (hca : ca ≤ 140737488351232) (hcb : cb ≤ 140737488351232) :
    Calls Safg.prog 9 #[.slice xa la ca, .slice ya lb cb] w fun e w' => e = .returned (.bool true) ∧ Below w.heap.size w w' := by
  have q61 := nenil61
  go_enter Safg.func9, Safg.ntmps9
  go_wp2_with fail
  refine (successor_any _ _ _ _ B hb hlb (by omega)).mono ?_
  rintro e w1 ⟨ta, T, rfl, htr, htn, htv, htl, b1⟩
  have HT : Hid (D.val T = D.val B + 1) := htv
  clear htv
  have ha1 := ha.below b1
  have hb1 := hb.below b1
  go_wp2_with fail
  refine (add_any _ _ none _ _ 0 0 A [] ha1 (Rd.nil _ _) hla (Nat.le_refl _) (by omega) (by omega)).mono ?_
  rintro e w2 ⟨ua, U, rfl, hum, huv, hul, b2⟩
  have hn2 := htr.below b2
  have ha2 := ha1.below b2
  have hb2 := hb1.below b2
  go_wp2_with fail
  refine (norm_any _ _ _ _ A ha2 hla (by omega)).mono ?_
  rintro e w3 ⟨va, rfl, hvm, b3⟩
  have HU : Hid (U = D.trimL A) := D.ext hum.nat.rd.dig hvm.nat.rd.dig hum.nat.nm hvm.nat.nm (by rw [huv, D.trimL_val]; simp [D.val])
  clear huv
  have htA := D.trimL_len A
  generalize D.trimL A = V at *
  have hn3 := hn2.below b3
  have ha3 := ha2.below b3
  have hb3 := hb2.below b3
  go_wp2_with fail
  refine (equalBytes_any _ _ _ _ _ _ _ U V (hum.nat.rd.below b3) hvm.nat.rd).mono ?_
  rintro e w4 ⟨rfl, hw⟩
  subst hw
  rw [decide_eq_true HU.out]
  have b03 : Below w.heap.size w w4 := (b1.trans (b2.mono b1.size)).trans (b3.mono (Nat.le_trans b1.size b2.size))
  clear b1 b2 b3 hum hvm ha1 ha2 hb1 hb2 hn2
  go_wp2_with fail
  refine (mul_any _ _ none _ _ 0 0 A [] ha3 (Rd.nil _ _) hla (Nat.le_refl _) (by omega) (by omega) (by omega)).mono ?_
  rintro e w5 ⟨pa, P, rfl, hpm, hpv, hpl, b5⟩
  have hP0 : P = [] := hpm.nat.nm.zero (by rw [hpv]; simp [D.val])
  have hpa := hpm.nat.nil hP0
  subst hP0
  subst hpa
  have ha5 := ha3.below b5
  have hb5 := hb3.below b5
  have hn5 := hn3.below b5
  have b05 := b03.trans (b5.mono b03.size)
  clear b03 b5 hpm hpv ha3 hb3 hn3
  go_wp2_with fail
  refine (add_any _ _ _ _ _ _ _ A B ha5 hb5 hla hlb (by omega) (by omega)).mono ?_
  rintro e w6 ⟨sa, S, rfl, hsm, hsv, hsl, b6⟩
  have HS : Hid (D.val S = D.val A + D.val B) := hsv
  clear hsv
  have ha6 := ha5.below b6
  have hb6 := hb5.below b6
  have hn6 := hn5.below b6
  have b06 := b05.trans (b6.mono b05.size)
  clear b05 b6 ha5 hb5 hn5
  go_wp2_with fail
  refine (add_any _ _ _ _ _ _ _ A T ha6 hn6 hla (Nat.le_refl _) (by omega) (by omega)).mono ?_
  rintro e w7 ⟨na, N, rfl, hnm, hnv, hnl, b7⟩
  have HN : Hid (D.val N = D.val S + 1) := by show _ = _; rw [hnv, HS.out, HT.out]; omega
  clear hnv
  have ha7 := ha6.below b7
  have hb7 := hb6.below b7
  have hn7 := hn6.below b7
  have hs7 := hsm.nat.below b7
  have b07 := b06.trans (b7.mono b06.size)
  clear b06 b7 ha6 hb6 hn6 hsm
  go_wp2_with fail
  refine (mul_any _ _ _ _ _ _ _ A B ha7 hb7 hla hlb (by omega) (by omega) (by omega)).mono ?_
  rintro e w8 ⟨pa, P, rfl, hpm, hpv, hpl, b8⟩
  have HP : Hid (D.val P = D.val A * D.val B) := hpv
  clear hpv
  have ha8 := ha7.below b8
  have hn8 := hn7.below b8
  have hs8 := hs7.below b8
  have hN8 := hnm.nat.below b8
  have b08 := b07.trans (b8.mono b07.size)
  clear b07 b8 ha7 hb7 hn7 hs7 hnm
  go_wp2_with fail
  refine (mul_any _ _ _ _ _ _ _ A T ha8 hn8 hla (Nat.le_refl _) (by omega) (by omega) (by omega)).mono ?_
  rintro e w9 ⟨qa, Q, rfl, hqm, hqv, hql, b9⟩
  have HQ : Hid (D.val Q = D.val P + D.val A) := by show _ = _; rw [hqv, HP.out, HT.out, Nat.mul_add, Nat.mul_one]
  clear hqv
  have b09 := b08.trans (b9.mono b08.size)
  go_wp2_with fail
  refine (peanoHolds_true _ _ _ _ _ _ _ _ A S N P Q (ha8.below b9) hla hca (hs8.below b9) (hN8.below b9) (hpm.nat.below b9) hqm.nat (by omega) (by omega) HN HQ).mono ?_
  rintro e w10 ⟨rfl, b10⟩
  go_wp2
  go_ret
  exact ⟨rfl, b09.trans (b10.mono b09.size)⟩
set_option maxRecDepth 100000 in
theorem lifted (os : Os) (started : os.Started) (H : Type) (enc : TypeId × Value → H) :
    ReturnsInHanded {} Safg.checked os 9 .any (Rows.natPeanoSpec.pre6 enc Safg.prog Safg.f9 Rows.natPeanoRow.domain false) (Rows.natPeanoSpec.post enc Safg.prog Safg.f9 false true false false) := by
  refine returnsInHanded_of_change_sized (C := Safg.checked) own started (by kernel_rfl) Safg.func9
    (ChangeSpec.witness6 (enc := enc) (C := Safg.checked) false ⟨#[], #[.slice none 0 0, .slice none 0 0], []⟩ 8 (by kernel_rfl) (by kernel_rfl) (by kernel_rfl) (by kernel_rfl)) ?_
  intro W base args ds gs before hval0 hW hcnd hsz0 _
  have hsz : (DataW.weightsEach Safg.prog (Safg.f9.params.toList ++ Rows.natPeanoSpec.plain.varTypes Safg.prog) (ds ++ gs)).all (· ≤ reachBytes) = true := hsz0
  have hval : ∀ (j : Nat) t v, Safg.f9.params[j]? = some t → args[j]? = some v → Value.okWide Safg.prog W .any base t v := hval0
  have hW' := hW
  obtain ⟨p, q, hA0, hV, rfl, hfz, hnd⟩ := hW
  have hA : DataW.TrodAll enc Safg.prog W 0 (fun _ => true) true Safg.f9.params.toList args.toList ds p := hA0
  rw [Safg.params9] at hA hval hsz
  obtain ⟨v0, vs0, d0, ds0, p0, q0, hargs, rfl, rfl, h0, r0⟩ := trodAll_cons hA
  obtain ⟨v1, vs1, d1, ds1, p1, q1, rfl, rfl, rfl, h1, r1⟩ := trodAll_cons r0
  obtain ⟨rfl, rfl, rfl⟩ := trodAll_nil r1
  obtain rfl : args = #[v0, v1] := by cases args; simp_all
  obtain ⟨rfl, rfl⟩ := trodVars_none hV
  obtain ⟨a0, len0, cap0, rfl⟩ := okWide_slice Safg.underlying30 (hval 0 30 v0 rfl rfl)
  obtain ⟨a1, len1, cap1, rfl⟩ := okWide_slice Safg.underlying30 (hval 1 30 v1 rfl rfl)
  have k0 := h0
  have k1 := h1
  have lt0 : ∀ x ∈ p0, x.block < W.heap.size := by obtain ⟨m, hm⟩ := k0; exact DataW.trod_lt m _ _ _ hm
  have lt1 : ∀ x ∈ p1, x.block < W.heap.size := by obtain ⟨m, hm⟩ := k1; exact DataW.trod_lt m _ _ _ hm
  obtain ⟨l0, hl0, hlc0, hcm0⟩ := open_bytes h0 (fun elems spare e => sized_slice hsz (j := 0) (t := 30) (e := 5) rfl (by rw [e]; rfl) Safg.underlying30)
  obtain ⟨l1, hl1, hlc1, hcm1⟩ := open_bytes h1 (fun elems spare e => sized_slice hsz (j := 1) (t := 30) (e := 5) rfl (by rw [e]; rfl) Safg.underlying30)
  clear hA0 hval0 hsz0
  refine (walk a0 a1 len0 cap0 len1 cap1 l0 l1 W hl0 hl1 hlc0 hlc1 hcm0 hcm1).mono fun e W' ⟨he, bel⟩ => ?_
  subst he
  exact ⟨_, rfl, _, _, _, [], _, [], hW', trodAll_mk1 (shut_bool Safg.underlying4 _), (trodAll_cons_mk (Below.trod laidOut (by kernel_rfl) (of_decide_eq_true (by kernel_rfl)) k0 bel lt0) (trodAll_cons_mk (Below.trod laidOut (by kernel_rfl) (of_decide_eq_true (by kernel_rfl)) k1 bel lt1) trodAll_mk0)), rfl, bel.frame _, fun h => by cases h⟩

theorem over : Rows.natPeanoRow.holds Safg.pinned (OpenSpec.ofChange Rows.natPeanoSpec) :=
  OpenClaim.holds_of_wide 9 Safg.f9 rfl rfl rfl rfl rfl rfl rfl ⟨rfl, rfl, rfl, rfl, rfl⟩ rfl rfl rfl rfl rfl (by kernel_rfl) Safg.func9 (by kernel_rfl)
    (of_decide_eq_true (by kernel_rfl)) (by unfold Func.isWrapper; first | (rw [if_pos (by decide +kernel)]; kernel_rfl) | (rw [if_neg (by decide +kernel)]; exact ⟨rfl, rfl⟩))
    (fun os started H enc _ => lifted os started H enc)

/-- THE STATEMENT -/
theorem proved : Rows.NatPeanoSaid := over
#print axioms proved
end Go.Proofs.Ygcsaf.natPeano
