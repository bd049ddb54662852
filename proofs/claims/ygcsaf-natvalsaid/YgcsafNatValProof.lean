/-
  'Rows.NatValSaid' ('yellow/law.NatVal'). The frame is the skeleton tool's, with the sized builder.
-/
import Derived.Test.YgcsafProduct
import Derived.Test.YgcsafMul
import Derived.Test.YgcsafOpen
namespace Go.Proofs.Ygcsaf.natVal
open Go.ChangeShapes Go.WideShapes Go.ChangeAt Go.RowKit
set_option linter.unusedVariables false
set_option linter.unusedSimpArgs false

set_option maxHeartbeats 800000 in
theorem holds_true (w : World) (xa ya na sa pa da : Option Addr) (la ca lb cb : Nat) (A B N S P Dd : List Nat) (ok : Bool) (ha : Rd w xa la A) (hb : Rd w ya lb B) (hla : la ≤ ca) (hlb : lb ≤ cb) (hca : ca ≤ 140737488351232) (hcb : cb ≤ 140737488351232)
    (hn : IsNat w na N) (hs : IsNat w sa S) (hp : IsNat w pa P) (hd : IsNat w da Dd) (vn : Hid (D.val N = D.val A)) (vs : Hid (D.val S = D.val A + D.val B)) (vp : Hid (D.val P = D.val A * D.val B))
    (hcase : Hid ((D.val A < D.val B ∧ ok = false ∧ Dd = []) ∨ (D.val B ≤ D.val A ∧ ok = true ∧ D.val Dd = D.val A - D.val B))) :
    Calls Safg.prog 37 #[.slice xa la ca, .slice ya lb cb, .slice na N.length N.length, .slice sa S.length S.length, .slice pa P.length P.length, .slice da Dd.length Dd.length, .bool ok, .int .i8 (D.cmpN (D.val A) (D.val B))] w fun e w' => e = .returned (.bool true) ∧ Below w.heap.size w w' := by
  have q30 := eqnil30
  have hal := ha.length
  have hbl := hb.length
  have htA := D.trimL_len A
  have htB := D.trimL_len B
  have hrX := ha.trim
  have hrY := hb.trim
  have hnX := D.trimL_nm A
  have hnY := D.trimL_nm B
  have VA : Hid (D.val (D.trimL A) = D.val A) := D.trimL_val A
  have VB : Hid (D.val (D.trimL B) = D.val B) := D.trimL_val B
  go_enter Safg.func37, Safg.ntmps37
  go_wp2_with fail
  refine (lowDigits_any _ _ _ _ A ha hla (by omega)).mono ?_
  rintro e w1 ⟨rfl, hw⟩
  subst hw
  go_wp2_with fail
  refine (lowDigits_any _ _ _ _ B hb hlb (by omega)).mono ?_
  rintro e w2 ⟨rfl, hw⟩
  subst hw
  generalize D.trimL A = X at *
  generalize D.trimL B = Y at *
  have EN : Hid (N = X) := D.ext hn.rd.dig hrX.dig hn.nm hnX (by rw [vn.out, VA.out])
  go_wp2_with fail
  refine (equalBytes_any _ _ _ _ _ _ _ N X hn.rd hrX).mono ?_
  rintro e w3 ⟨rfl, hw⟩
  subst hw
  rw [decide_eq_true EN.out]
  go_wp2_with fail
  refine (sumDigits_any _ _ _ _ _ _ _ X Y hrX hrY (Nat.le_refl _) (Nat.le_refl _) (by omega) (by omega)).mono ?_
  rintro e w4 ⟨ta, T, rfl, htr, htn, htv, b4⟩
  have ES : Hid (S = T) := D.ext hs.rd.dig htr.dig hs.nm htn (by rw [vs.out, htv, VA.out, VB.out])
  clear htv
  have hrX4 := hrX.below b4
  have hrY4 := hrY.below b4
  have hp4 := hp.below b4
  have hd4 := hd.below b4
  go_wp2_with fail
  refine (equalBytes_any _ _ _ _ _ _ _ S T (hs.rd.below b4) htr).mono ?_
  rintro e w5 ⟨rfl, hw⟩
  subst hw
  rw [decide_eq_true ES.out]
  go_wp2_with fail
  refine (productDigits_any _ _ _ _ _ _ _ X Y hrX4 hrY4 (Nat.le_refl _) (Nat.le_refl _) (by omega) (by omega)).mono ?_
  rintro e w6 ⟨ua, U, rfl, hur, hun, huv, b6⟩
  have EP : Hid (P = U) := D.ext hp.rd.dig hur.dig hp.nm hun (by rw [vp.out, huv, VA.out, VB.out])
  clear huv
  have hrX6 := hrX4.below b6
  have hrY6 := hrY4.below b6
  have hd6 := hd4.below b6
  have b06 := b4.trans (b6.mono b4.size)
  go_wp2_with fail
  refine (equalBytes_any _ _ _ _ _ _ _ P U (hp4.rd.below b6) hur).mono ?_
  rintro e w7 ⟨rfl, hw⟩
  subst hw
  rw [decide_eq_true EP.out]
  clear b4 b6 hrX4 hrY4 hp4 hd4 htr hur
  go_wp2_with fail
  refine (orderDigits_any _ _ _ _ _ X Y hrX6 hrY6 hnX hnY (by omega) (by omega)).mono ?_
  rintro e w8 ⟨rfl, hw⟩
  subst hw
  rw [VA.out, VB.out]
  rcases hcase.out with ⟨hlt, rfl, rfl⟩ | ⟨hge, rfl, hdv⟩
  · rw [D.cmpN_lt hlt]
    have hda := hd.nil rfl
    subst hda
    go_wp2
    go_ret
    exact ⟨rfl, b06⟩
  · obtain ⟨cv, hcv, hcv0⟩ : ∃ cv, D.cmpN (D.val A) (D.val B) = cv ∧ 0 ≤ cv := ⟨_, rfl, by unfold D.cmpN; rw [if_neg (by omega)]; split <;> omega⟩
    rw [hcv]
    clear hcv
    have hd0 : decide (0 ≤ cv) = true := decide_eq_true hcv0
    have hcc : (cv == cv) = true := by simp
    have HD : Hid (D.val Dd = D.val A - D.val B) := hdv
    clear hdv hcase
    have hYX : Y.length ≤ X.length := by
      apply Nat.le_of_not_lt
      intro hh
      have := D.lt_of_len hrX.dig hnY hh
      rw [VA.out, VB.out] at this
      omega
    have HGE : Hid (D.val Y ≤ D.val X) := by show _ ≤ _; rw [VA.out, VB.out]; exact hge
    go_wp2_with fail
    refine (lessDigits_any _ _ _ _ _ _ _ X Y hrX6 hrY6 (Nat.le_refl _) (Nat.le_refl _) (by omega) (by omega) hYX HGE).mono ?_
    rintro e w9 ⟨va, V, rfl, hvr, hvn, hvv, b9⟩
    have ED : Hid (Dd = V) := D.ext hd.rd.dig hvr.dig hd.nm hvn (by rw [HD.out, hvv, VA.out, VB.out])
    clear hvv
    go_wp2_with fail
    refine (equalBytes_any _ _ _ _ _ _ _ Dd V (hd6.rd.below b9) hvr).mono ?_
    rintro e w10 ⟨rfl, hw⟩
    subst hw
    rw [decide_eq_true ED.out]
    go_wp2
    go_ret
    exact ⟨rfl, b06.trans (b9.mono b06.size)⟩

set_option maxHeartbeats 400000 in
theorem walk (xa ya : Option Addr) (la ca lb cb : Nat) (A B : List Nat) (w : World) (ha : Rd w xa la A) (hb : Rd w ya lb B) (hla : la ≤ ca) (hlb : lb ≤ cb) (hca : ca ≤ 140737488351232) (hcb : cb ≤ 140737488351232) :
    Calls Safg.prog 10 #[.slice xa la ca, .slice ya lb cb] w fun e w' => e = .returned (.bool true) ∧ Below w.heap.size w w' := by
  go_enter Safg.func10, Safg.ntmps10
  go_wp2_with fail
  refine (sub_any _ _ _ _ _ _ _ A B ha hb hla hlb (by omega) (by omega)).mono ?_
  rintro e w1 ⟨b1, hcase⟩
  obtain ⟨da, Dd, ok, he, hd, hc⟩ : ∃ da Dd ok, e = .returned (.tuple #[.slice da (List.length Dd) (List.length Dd), .bool ok]) ∧ IsNat w1 da Dd ∧ ((D.val A < D.val B ∧ ok = false ∧ Dd = []) ∨ (D.val B ≤ D.val A ∧ ok = true ∧ D.val Dd = D.val A - D.val B)) := by
    rcases hcase with ⟨h1, h2⟩ | ⟨h1, a', l, h2, h3, h4, h5⟩
    · exact ⟨none, [], false, h2, (Made.nil 0 _).nat, .inl ⟨h1, rfl, rfl⟩⟩
    · exact ⟨a', l, true, h2, h3.nat, .inr ⟨h1, rfl, h4⟩⟩
  have HC : Hid ((D.val A < D.val B ∧ ok = false ∧ Dd = []) ∨ (D.val B ≤ D.val A ∧ ok = true ∧ D.val Dd = D.val A - D.val B)) := hc
  clear hc hcase
  subst he
  have ha1 := ha.below b1
  have hb1 := hb.below b1
  go_wp2_with fail
  refine (norm_any _ _ _ _ A ha1 hla (by omega)).mono ?_
  rintro e w2 ⟨na, rfl, hnm, b2⟩
  have VN : Hid (D.val (D.trimL A) = D.val A) := D.trimL_val A
  generalize D.trimL A = N at *
  have ha2 := ha1.below b2
  have hb2 := hb1.below b2
  have hd2 := hd.below b2
  have b02 := b1.trans (b2.mono b1.size)
  clear b1 b2 ha1 hb1 hd
  go_wp2_with fail
  refine (add_any _ _ _ _ _ _ _ A B ha2 hb2 hla hlb (by omega) (by omega)).mono ?_
  rintro e w3 ⟨sa, S, rfl, hsm, hsv, hsl, b3⟩
  have VS : Hid (D.val S = D.val A + D.val B) := hsv
  clear hsv
  have ha3 := ha2.below b3
  have hb3 := hb2.below b3
  have hd3 := hd2.below b3
  have hn3 := hnm.nat.below b3
  have b03 := b02.trans (b3.mono b02.size)
  clear b02 b3 ha2 hb2 hd2 hnm
  go_wp2_with fail
  refine (mul_any _ _ _ _ _ _ _ A B ha3 hb3 hla hlb (by omega) (by omega) (by omega)).mono ?_
  rintro e w4 ⟨pa, P, rfl, hpm, hpv, hpl, b4⟩
  have VP : Hid (D.val P = D.val A * D.val B) := hpv
  clear hpv
  have ha4 := ha3.below b4
  have hb4 := hb3.below b4
  have hd4 := hd3.below b4
  have hn4 := hn3.below b4
  have hs4 := hsm.nat.below b4
  have b04 := b03.trans (b4.mono b03.size)
  clear b03 b4 ha3 hb3 hd3 hn3 hsm
  go_wp2_with fail
  refine (cmp_any _ _ _ _ _ _ _ A B ha4 hb4 hla hlb (by omega) (by omega)).mono ?_
  rintro e w5 ⟨rfl, hs5⟩
  have b5 := hs5.below w4.heap.size
  have b05 := b04.trans (hs5.below _)
  go_wp2_with fail
  refine (holds_true _ _ _ _ _ _ _ _ _ _ _ A B N S P Dd ok (ha4.below b5) (hb4.below b5) hla hlb hca hcb (hn4.below b5) (hs4.below b5) (hpm.nat.below b5) (hd4.below b5) VN VS VP HC).mono ?_
  rintro e w6 ⟨rfl, b6⟩
  go_wp2
  go_ret
  exact ⟨rfl, b05.trans (b6.mono b05.size)⟩
set_option maxRecDepth 100000 in
theorem lifted (os : Os) (started : os.Started) (H : Type) (enc : TypeId × Value → H) :
    ReturnsInHanded {} Safg.checked os 10 .any (Rows.natValSpec.pre6 enc Safg.prog Safg.f10 Rows.natValRow.domain false) (Rows.natValSpec.post enc Safg.prog Safg.f10 false true false false) := by
  refine returnsInHanded_of_change_sized (C := Safg.checked) own started (by kernel_rfl) Safg.func10
    (ChangeSpec.witness6 (enc := enc) (C := Safg.checked) false ⟨#[], #[.slice none 0 0, .slice none 0 0], []⟩ 8 (by kernel_rfl) (by kernel_rfl) (by kernel_rfl) (by kernel_rfl)) ?_
  intro W base args ds gs before hval0 hW hcnd hsz0 _
  have hsz : (DataW.weightsEach Safg.prog (Safg.f10.params.toList ++ Rows.natValSpec.plain.varTypes Safg.prog) (ds ++ gs)).all (· ≤ reachBytes) = true := hsz0
  have hval : ∀ (j : Nat) t v, Safg.f10.params[j]? = some t → args[j]? = some v → Value.okWide Safg.prog W .any base t v := hval0
  have hW' := hW
  obtain ⟨p, q, hA0, hV, rfl, hfz, hnd⟩ := hW
  have hA : DataW.TrodAll enc Safg.prog W 0 (fun _ => true) true Safg.f10.params.toList args.toList ds p := hA0
  rw [Safg.params10] at hA hval hsz
  obtain ⟨v0, vs0, d0, ds0, p0, q0, hargs, rfl, rfl, h0, r0⟩ := trodAll_cons hA
  obtain ⟨v1, vs1, d1, ds1, p1, q1, rfl, rfl, rfl, h1, r1⟩ := trodAll_cons r0
  obtain ⟨rfl, rfl, rfl⟩ := trodAll_nil r1
  obtain rfl : args = #[v0, v1] := by cases args; simp_all
  obtain ⟨rfl, rfl⟩ := trodVars_none hV
  obtain ⟨a0, len0, cap0, rfl⟩ := okWide_slice Safg.underlying30 (hval 0 30 v0 rfl rfl)
  obtain ⟨a1, len1, cap1, rfl⟩ := okWide_slice Safg.underlying30 (hval 1 30 v1 rfl rfl)
  have k0 := h0
  have k1 := h1
  have lt0 : ∀ x ∈ p0, x.block < W.heap.size := by obtain ⟨m, hm⟩ := k0; exact DataW.trod_lt m _ _ _ hm
  have lt1 : ∀ x ∈ p1, x.block < W.heap.size := by obtain ⟨m, hm⟩ := k1; exact DataW.trod_lt m _ _ _ hm
  obtain ⟨l0, hl0, hlc0, hcm0⟩ := open_bytes h0 (fun elems spare e => sized_slice hsz (j := 0) (t := 30) (e := 5) rfl (by rw [e]; rfl) Safg.underlying30)
  obtain ⟨l1, hl1, hlc1, hcm1⟩ := open_bytes h1 (fun elems spare e => sized_slice hsz (j := 1) (t := 30) (e := 5) rfl (by rw [e]; rfl) Safg.underlying30)
  clear hA0 hval0 hsz0
  refine (walk a0 a1 len0 cap0 len1 cap1 l0 l1 W hl0 hl1 hlc0 hlc1 hcm0 hcm1).mono fun e W' ⟨he, bel⟩ => ?_
  subst he
  exact ⟨_, rfl, _, _, _, [], _, [], hW', trodAll_mk1 (shut_bool Safg.underlying4 _), (trodAll_cons_mk (Below.trod laidOut (by kernel_rfl) (of_decide_eq_true (by kernel_rfl)) k0 bel lt0) (trodAll_cons_mk (Below.trod laidOut (by kernel_rfl) (of_decide_eq_true (by kernel_rfl)) k1 bel lt1) trodAll_mk0)), rfl, bel.frame _, fun h => by cases h⟩

theorem over : Rows.natValRow.holds Safg.pinned (OpenSpec.ofChange Rows.natValSpec) :=
  OpenClaim.holds_of_wide 10 Safg.f10 rfl rfl rfl rfl rfl rfl rfl ⟨rfl, rfl, rfl, rfl, rfl⟩ rfl rfl rfl rfl rfl (by kernel_rfl) Safg.func10 (by kernel_rfl)
    (of_decide_eq_true (by kernel_rfl)) (by unfold Func.isWrapper; first | (rw [if_pos (by decide +kernel)]; kernel_rfl) | (rw [if_neg (by decide +kernel)]; exact ⟨rfl, rfl⟩))
    (fun os started H enc _ => lifted os started H enc)

/-- THE STATEMENT -/
theorem proved : Rows.NatValSaid := over
#print axioms proved
end Go.Proofs.Ygcsaf.natVal
