/-
  'Rows.NatSmallSaid' ('yellow/law.NatSmall').
-/
import Derived.Test.YgcsafNatSmallHolds
import Derived.Test.YgcsafU64
import Derived.Test.YgcsafAdd
namespace Go.Proofs.Ygcsaf.natSmall
open Go.ChangeShapes Go.WideShapes Go.ChangeAt Go.RowKit
set_option linter.unusedVariables false
set_option linter.unusedSimpArgs false

theorem Made.only {B g : Nat} {w w' : World} {a : Option Addr} {l : List Nat} (h : Made B w a l) (ho : Only g w w') (hg : g < B) : Made B w' a l := by
  by_cases hl : l = []
  · subst hl
    obtain rfl := h.nat.nil rfl
    exact Made.nil _ _
  · obtain ⟨k, rfl, hk, own⟩ := h.own hl
    exact Made.of_own (ho.own own (by omega)) h.nat.rd.dig h.nat.nm hl hk
theorem Made.isNat_only {B g : Nat} {w w' : World} {a : Option Addr} {l : List Nat} (h : Made B w a l) (ho : Only g w w') (hg : g < B) : IsNat w' a l := (Made.only h ho hg).nat

theorem made_below {B : Nat} {w w' : World} {a : Option Addr} {l : List Nat} (h : Made B w a l) (hb : Below w.heap.size w w') : Made B w' a l := by
  by_cases hl : l = []
  · subst hl
    obtain rfl := h.nat.nil rfl
    exact Made.nil _ _
  · obtain ⟨k, rfl, hk, own⟩ := h.own hl
    exact Made.of_own (own.below hb own.lt) h.nat.rd.dig h.nat.nm hl hk

theorem own : ownKnob Safg.prog.godebug = none := by kernel_rfl

set_option maxRecDepth 100000 in
set_option maxHeartbeats 2000000 in
theorem walk (w : World) (a b : Nat) (ha : a < 18446744073709551616) (hb : b < 18446744073709551616) :
    Calls Safg.prog 7 #[.int .u64 (a : Int), .int .u64 (b : Int)] w fun e w' => e = .returned (.bool true) ∧ Below w.heap.size w w' := by
  go_enter Safg.func7, Safg.ntmps7
  go_wp2_with fail
  refine (fromU64_any _ a ha).mono ?_
  rintro e w1 ⟨xa, X, rfl, hX, hXv, hXl, b1⟩
  have HX : Hid (D.val X = a) := hXv
  clear hXv
  go_wp2_with fail
  refine (fromU64_any _ b hb).mono ?_
  rintro e w2 ⟨ya, Y, rfl, hY, hYv, hYl, b2⟩
  have HY : Hid (D.val Y = b) := hYv
  clear hYv
  have hX2 := hX.nat.below b2
  have b02 := b1.trans (b2.mono b1.size)
  go_wp2_with fail
  refine (add_any _ _ _ _ _ _ _ X Y hX2.rd hY.nat.rd (Nat.le_refl _) (Nat.le_refl _) (by omega) (by omega)).mono ?_
  rintro e w3 ⟨sa, S, rfl, hS, hSv, _, b3⟩
  have VS : Hid (D.val S = a + b) := by show _ = _; rw [hSv, HX.out, HY.out]
  clear hSv
  have hX3 := hX2.below b3
  have hY3 := hY.nat.below b3
  have b03 := b02.trans (b3.mono b02.size)
  go_wp2_with fail
  refine (mul_any _ _ _ _ _ _ _ X Y hX3.rd hY3.rd (Nat.le_refl _) (Nat.le_refl _) (by omega) (by omega) (by omega)).mono ?_
  rintro e w4 ⟨pa, P, rfl, hP, hPv, _, b4⟩
  have VP : Hid (D.val P = a * b) := by show _ = _; rw [hPv, HX.out, HY.out]
  clear hPv
  have hX4 := hX3.below b4
  have hY4 := hY3.below b4
  have hS4 := hS.nat.below b4
  have b04 := b03.trans (b4.mono b03.size)
  go_wp2_with fail
  refine (cmp_any _ _ _ _ _ _ _ X Y hX4.rd hY4.rd (Nat.le_refl _) (Nat.le_refl _) (by omega) (by omega)).mono ?_
  rintro e w5 ⟨rfl, s5⟩
  have b5 := s5.below w4.heap.size
  have hX5 := hX4.below b5
  have hY5 := hY4.below b5
  have hS5 := hS4.below b5
  have hP5 := hP.nat.below b5
  have b05 := b04.trans (b5.mono b04.size)
  obtain ⟨o, HO, vo⟩ : ∃ o, D.cmpN (D.val X) (D.val Y) = o ∧ Hid (o = D.cmpN a b) := ⟨_, rfl, by show _ = _; rw [HX.out, HY.out]⟩
  rw [HO]
  clear HO b1 b2 b3 b4 b5 b02 b03 b04 hX hY hX2 hX3 hY3 hX4 hY4 hS hS4 hP
  go_upto_region 4 with (first
    | (refine wpList_alloc_agg rfl 67 rfl [.slice none 0 0, .slice none 0 0, .slice none 0 0, .slice none 0 0, .slice none 0 0, .bool false, .bool false, .int .i8 0] (by kernel_rfl) ?_; intro w6 g hg k6 b6)
    | (refine wpList_store_agg rfl 67 _ _ rfl g rfl _ [.slice sa S.length S.length, .slice pa P.length P.length, .slice none 0 0, .slice none 0 0, .slice none 0 0, .bool false, .bool false, .int .i8 o] rfl k6 rfl (by kernel_rfl) (by simp [Value.oneCell']) ?_; intro w7 k7 o7))
  have b7 := o7.below (B := w5.heap.size) hg
  have b57 := b6.trans (b7)
  have hX7 := hX5.below b57
  have hY7 := hY5.below b57
  have g7 := k7.lt
  clear k6 b6 b7 o7
  go_wp2_with fail
  refine (sub_any _ _ _ _ _ _ _ X Y hX7.rd hY7.rd (Nat.le_refl _) (Nat.le_refl _) (by omega) (by omega)).mono ?_
  rintro e w8 ⟨b8, h8⟩
  have k8 := k7.below b8 g7
  have b58 := b57.trans (b8.mono b57.size)
  have hX8 := hX7.below b8
  have hY8 := hY7.below b8
  have s78 := b8.size
  have c2 := k8.get (j := 2) rfl
  have c5 := k8.get (j := 5) rfl
  have z2 := k8.free 2
  have z5 := k8.free 5
  clear k7 b8 b57 hX7 hY7
  rcases h8 with ⟨hab0, rfl⟩ | ⟨hab0, da, Dd, rfl, hD, hDv, hDl⟩
  · have hab : a < b := by have := HX.out; have := HY.out; omega
    clear hab0
    go_upto_region 7 with fail
    have o9 : Only g w8 ((w8.setCell ⟨g, 2, none⟩ (.slice none 0 0)).setCell ⟨g, 5, none⟩ (.bool false)) := ((Only.refl g w8).setCell 2 _).setCell 5 _
    have k9 := (k8.set (k := 2) (by simp) (.slice none 0 0)).set (k := 5) (by simp) (.bool false)
    generalize (w8.setCell ⟨g, 2, none⟩ (.slice none 0 0)).setCell ⟨g, 5, none⟩ (.bool false) = w9 at *
    have s9 := o9.size
    have b59 := b58.trans ((o9.below (B := w5.heap.size) hg))
    have hX9 := hX5.below b59
    have hY9 := hY5.below b59
    clear c2 c5 z2 z5 k8 b58 hX8 hY8
    go_wp2_with fail
    refine (divMod_any _ _ _ _ _ _ _ X Y hX9.rd hY9.rd (Nat.le_refl _) (Nat.le_refl _) (by omega) (by omega)).mono ?_
    rintro e w10 ⟨b10, h10⟩
    have k10 := k9.below b10 k9.lt
    have b510 := b59.trans (b10.mono b59.size)
    have g9 := k9.lt
    have c3 := k10.get (j := 3) rfl
    have c4 := k10.get (j := 4) rfl
    have c6 := k10.get (j := 6) rfl
    have z3 := k10.free 3
    have z4 := k10.free 4
    have z6 := k10.free 6
    clear k9 b59 hX9 hY9
    rcases h10 with ⟨hb0, rfl⟩ | ⟨hb0, qa, Q, ra, R, rfl, hQ, hR, hdiv, hmod, _, _⟩
    · exfalso; have := HY.out; omega
    · have hbp : 0 < b := by have := HY.out; omega
      have hqr : D.val Q = a / b ∧ D.val R = a % b := by
        rw [HX.out, HY.out] at hdiv
        rw [HY.out] at hmod
        rw [hdiv, Nat.add_comm, Nat.mul_comm]
        exact ⟨by rw [Nat.add_mul_div_left _ _ hbp, Nat.div_eq_of_lt hmod, Nat.zero_add], by rw [Nat.add_mul_mod_self_left, Nat.mod_eq_of_lt hmod]⟩
      have VQ : Hid (D.val Q = a / b) := hqr.1
      have VR : Hid (D.val R = a % b) := hqr.2
      clear hb0 hqr hdiv hmod
      go_upto_region 11 with fail
      have o11 : Only g w10 (((w10.setCell ⟨g, 3, none⟩ (.slice qa Q.length Q.length)).setCell ⟨g, 4, none⟩ (.slice ra R.length R.length)).setCell ⟨g, 6, none⟩ (.bool true)) := (((Only.refl g w10).setCell 3 _).setCell 4 _).setCell 6 _
      have k11 := ((k10.set (k := 3) (by simp) (.slice qa Q.length Q.length)).set (k := 4) (by simp) (.slice ra R.length R.length)).set (k := 6) (by simp) (.bool true)
      replace k11 : Blk (((w10.setCell ⟨g, 3, none⟩ (.slice qa Q.length Q.length)).setCell ⟨g, 4, none⟩ (.slice ra R.length R.length)).setCell ⟨g, 6, none⟩ (.bool true)) g [.slice sa S.length S.length, .slice pa P.length P.length, .slice none 0 0, .slice qa Q.length Q.length, .slice ra R.length R.length, .bool false, .bool true, .int .i8 o] := k11
      generalize ((w10.setCell ⟨g, 3, none⟩ (.slice qa Q.length Q.length)).setCell ⟨g, 4, none⟩ (.slice ra R.length R.length)).setCell ⟨g, 6, none⟩ (.bool true) = w11 at *
      have b511 := b510.trans ((o11.below (B := w5.heap.size) hg))
      have hS11 := hS5.below b511
      have hP11 := hP5.below b511
      have hQ11 := (Made.only hQ o11 g9).nat
      have hR11 := (Made.only hR o11 g9).nat
      clear c3 c4 c6 z3 z4 z6 k10
      have e0 := k11.get (j := 0) rfl
      have e1 := k11.get (j := 1) rfl
      have e2 := k11.get (j := 2) rfl
      have e3 := k11.get (j := 3) rfl
      have e4 := k11.get (j := 4) rfl
      have e5 := k11.get (j := 5) rfl
      have e6 := k11.get (j := 6) rfl
      have e7 := k11.get (j := 7) rfl
      go_wp2_with fail
      refine (case_ft _ a b ha hb sa pa qa ra S P Q R  o hS11 hP11 VS VP hab hQ11 hR11 hbp VQ VR vo).mono ?_
      rintro e w12 ⟨rfl, b12⟩
      go_wp2
      go_ret
      exact ⟨rfl, (b05.trans (b511.mono b05.size)).trans (b12.mono (Nat.le_trans b05.size b511.size))⟩
  · have hab : b ≤ a := by have := HX.out; have := HY.out; omega
    have VD : Hid (D.val Dd = a - b) := by show _ = _; rw [hDv, HX.out, HY.out]
    clear hDv hab0
    go_upto_region 7 with fail
    have o9 : Only g w8 ((w8.setCell ⟨g, 2, none⟩ (.slice da Dd.length Dd.length)).setCell ⟨g, 5, none⟩ (.bool true)) := ((Only.refl g w8).setCell 2 _).setCell 5 _
    have k9 := (k8.set (k := 2) (by simp) (.slice da Dd.length Dd.length)).set (k := 5) (by simp) (.bool true)
    generalize (w8.setCell ⟨g, 2, none⟩ (.slice da Dd.length Dd.length)).setCell ⟨g, 5, none⟩ (.bool true) = w9 at *
    have s9 := o9.size
    have b59 := b58.trans ((o9.below (B := w5.heap.size) hg))
    have hX9 := hX5.below b59
    have hY9 := hY5.below b59
    have hD9 := Made.only hD o9 g7
    clear c2 c5 z2 z5 k8 b58 hX8 hY8
    go_wp2_with fail
    refine (divMod_any _ _ _ _ _ _ _ X Y hX9.rd hY9.rd (Nat.le_refl _) (Nat.le_refl _) (by omega) (by omega)).mono ?_
    rintro e w10 ⟨b10, h10⟩
    have k10 := k9.below b10 k9.lt
    have b510 := b59.trans (b10.mono b59.size)
    have g9 := k9.lt
    have hD10 := hD9.nat.below b10
    have c3 := k10.get (j := 3) rfl
    have c4 := k10.get (j := 4) rfl
    have c6 := k10.get (j := 6) rfl
    have z3 := k10.free 3
    have z4 := k10.free 4
    have z6 := k10.free 6
    clear k9 b59 hX9 hY9
    rcases h10 with ⟨hb0, rfl⟩ | ⟨hb0, qa, Q, ra, R, rfl, hQ, hR, hdiv, hmod, _, _⟩
    · have hbz : b = 0 := by have := HY.out; omega
      clear hb0
      have HBZ : Hid (b = 0) := hbz
      clear hbz
      go_upto_region 11 with fail
      have o11 : Only g w10 (((w10.setCell ⟨g, 3, none⟩ (.slice none 0 0)).setCell ⟨g, 4, none⟩ (.slice none 0 0)).setCell ⟨g, 6, none⟩ (.bool false)) := (((Only.refl g w10).setCell 3 _).setCell 4 _).setCell 6 _
      have k11 := ((k10.set (k := 3) (by simp) (.slice none 0 0)).set (k := 4) (by simp) (.slice none 0 0)).set (k := 6) (by simp) (.bool false)
      replace k11 : Blk (((w10.setCell ⟨g, 3, none⟩ (.slice none 0 0)).setCell ⟨g, 4, none⟩ (.slice none 0 0)).setCell ⟨g, 6, none⟩ (.bool false)) g [.slice sa S.length S.length, .slice pa P.length P.length, .slice da Dd.length Dd.length, .slice none 0 0, .slice none 0 0, .bool true, .bool false, .int .i8 o] := k11
      generalize ((w10.setCell ⟨g, 3, none⟩ (.slice none 0 0)).setCell ⟨g, 4, none⟩ (.slice none 0 0)).setCell ⟨g, 6, none⟩ (.bool false) = w11 at *
      have b511 := b510.trans ((o11.below (B := w5.heap.size) hg))
      have hS11 := hS5.below b511
      have hP11 := hP5.below b511
      have hD11 := (hD9.nat.below b10 |> fun _ => Made.only (made_below hD9 b10) o11 g7).nat
      clear c3 c4 c6 z3 z4 z6 k10
      have e0 := k11.get (j := 0) rfl
      have e1 := k11.get (j := 1) rfl
      have e2 := k11.get (j := 2) rfl
      have e3 := k11.get (j := 3) rfl
      have e4 := k11.get (j := 4) rfl
      have e5 := k11.get (j := 5) rfl
      have e6 := k11.get (j := 6) rfl
      have e7 := k11.get (j := 7) rfl
      go_wp2_with fail
      refine (case_tf _ a b ha hb sa pa da S P Dd  o hS11 hP11 VS VP hD11 hab VD HBZ vo).mono ?_
      rintro e w12 ⟨rfl, b12⟩
      go_wp2
      go_ret
      exact ⟨rfl, (b05.trans (b511.mono b05.size)).trans (b12.mono (Nat.le_trans b05.size b511.size))⟩
    · have hbp : 0 < b := by have := HY.out; omega
      have hqr : D.val Q = a / b ∧ D.val R = a % b := by
        rw [HX.out, HY.out] at hdiv
        rw [HY.out] at hmod
        rw [hdiv, Nat.add_comm, Nat.mul_comm]
        exact ⟨by rw [Nat.add_mul_div_left _ _ hbp, Nat.div_eq_of_lt hmod, Nat.zero_add], by rw [Nat.add_mul_mod_self_left, Nat.mod_eq_of_lt hmod]⟩
      have VQ : Hid (D.val Q = a / b) := hqr.1
      have VR : Hid (D.val R = a % b) := hqr.2
      clear hb0 hqr hdiv hmod
      go_upto_region 11 with fail
      have o11 : Only g w10 (((w10.setCell ⟨g, 3, none⟩ (.slice qa Q.length Q.length)).setCell ⟨g, 4, none⟩ (.slice ra R.length R.length)).setCell ⟨g, 6, none⟩ (.bool true)) := (((Only.refl g w10).setCell 3 _).setCell 4 _).setCell 6 _
      have k11 := ((k10.set (k := 3) (by simp) (.slice qa Q.length Q.length)).set (k := 4) (by simp) (.slice ra R.length R.length)).set (k := 6) (by simp) (.bool true)
      replace k11 : Blk (((w10.setCell ⟨g, 3, none⟩ (.slice qa Q.length Q.length)).setCell ⟨g, 4, none⟩ (.slice ra R.length R.length)).setCell ⟨g, 6, none⟩ (.bool true)) g [.slice sa S.length S.length, .slice pa P.length P.length, .slice da Dd.length Dd.length, .slice qa Q.length Q.length, .slice ra R.length R.length, .bool true, .bool true, .int .i8 o] := k11
      generalize ((w10.setCell ⟨g, 3, none⟩ (.slice qa Q.length Q.length)).setCell ⟨g, 4, none⟩ (.slice ra R.length R.length)).setCell ⟨g, 6, none⟩ (.bool true) = w11 at *
      have b511 := b510.trans ((o11.below (B := w5.heap.size) hg))
      have hS11 := hS5.below b511
      have hP11 := hP5.below b511
      have hD11 := (hD9.nat.below b10 |> fun _ => Made.only (made_below hD9 b10) o11 g7).nat
      have hQ11 := (Made.only hQ o11 g9).nat
      have hR11 := (Made.only hR o11 g9).nat
      clear c3 c4 c6 z3 z4 z6 k10
      have e0 := k11.get (j := 0) rfl
      have e1 := k11.get (j := 1) rfl
      have e2 := k11.get (j := 2) rfl
      have e3 := k11.get (j := 3) rfl
      have e4 := k11.get (j := 4) rfl
      have e5 := k11.get (j := 5) rfl
      have e6 := k11.get (j := 6) rfl
      have e7 := k11.get (j := 7) rfl
      go_wp2_with fail
      refine (case_tt _ a b ha hb sa pa da qa ra S P Dd Q R  o hS11 hP11 VS VP hD11 hab VD hQ11 hR11 hbp VQ VR vo).mono ?_
      rintro e w12 ⟨rfl, b12⟩
      go_wp2
      go_ret
      exact ⟨rfl, (b05.trans (b511.mono b05.size)).trans (b12.mono (Nat.le_trans b05.size b511.size))⟩

set_option maxRecDepth 100000 in
theorem lifted (os : Os) (started : os.Started) (H : Type) (enc : TypeId × Value → H) :
    ReturnsInHanded {} Safg.checked os 7 .any (Rows.natSmallSpec.pre6 enc Safg.prog Safg.f7 Rows.natSmallRow.domain false) (Rows.natSmallSpec.post enc Safg.prog Safg.f7 false true false false) := by
  refine returnsInHanded_of_change (C := Safg.checked) own started (by kernel_rfl) Safg.func7
    (ChangeSpec.witness6 (enc := enc) (C := Safg.checked) false ⟨#[], #[.int .u64 0, .int .u64 0], []⟩ 8 (by kernel_rfl) (by kernel_rfl) (by kernel_rfl) (by kernel_rfl)) ?_
  intro W base args ds gs before hval0 hW hcnd _
  have hval : ∀ (j : Nat) t v, Safg.f7.params[j]? = some t → args[j]? = some v → Value.okWide Safg.prog W .any base t v := hval0
  have hW' := hW
  obtain ⟨p, q, hA0, hV, rfl, hfz, hnd⟩ := hW
  have hA : DataW.TrodAll enc Safg.prog W 0 (fun _ => true) true Safg.f7.params.toList args.toList ds p := hA0
  rw [Safg.params7] at hA hval
  obtain ⟨v0, vs0, d0, ds0, p0, q0, hargs, rfl, rfl, h0, r0⟩ := trodAll_cons hA
  obtain ⟨v1, vs1, d1, ds1, p1, q1, rfl, rfl, rfl, h1, r1⟩ := trodAll_cons r0
  obtain ⟨rfl, rfl, rfl⟩ := trodAll_nil r1
  obtain rfl : args = #[v0, v1] := by cases args; simp_all
  obtain ⟨rfl, rfl⟩ := trodVars_none hV
  obtain ⟨a0, rfl, rfl, rfl, w0⟩ := open_int Safg.underlying22 (hval 0 22 v0 rfl rfl) h0
  obtain ⟨a1, rfl, rfl, rfl, w1⟩ := open_int Safg.underlying22 (hval 1 22 v1 rfl rfl) h1
  clear hA0 hval0
  simp only [List.append_nil] at hW'
  have hb0 := bounds_u64 w0
  have hb1 := bounds_u64 w1
  obtain ⟨x, rfl⟩ := Int.eq_ofNat_of_zero_le hb0.1
  obtain ⟨y, rfl⟩ := Int.eq_ofNat_of_zero_le hb1.1
  refine (walk W x y (by omega) (by omega)).mono fun e W' ⟨he, bel⟩ => ?_
  subst he
  exact ⟨_, rfl, _, _, _, [], _, [], hW', trodAll_mk1 (shut_bool Safg.underlying4 _), (trodAll_cons_mk (shut_int Safg.underlying22 w0) (trodAll_cons_mk (shut_int Safg.underlying22 w1) trodAll_mk0)), rfl, bel.frame _, fun h => by cases h⟩

theorem over : Rows.natSmallRow.holds Safg.pinned (OpenSpec.ofChange Rows.natSmallSpec) :=
  OpenClaim.holds_of_wide 7 Safg.f7 rfl rfl rfl rfl rfl rfl rfl ⟨rfl, rfl, rfl, rfl, rfl⟩ rfl rfl rfl rfl rfl (by kernel_rfl) Safg.func7 (by kernel_rfl)
    (of_decide_eq_true (by kernel_rfl)) (by unfold Func.isWrapper; first | (rw [if_pos (by decide +kernel)]; kernel_rfl) | (rw [if_neg (by decide +kernel)]; exact ⟨rfl, rfl⟩))
    (fun os started H enc _ => lifted os started H enc)

/-- THE STATEMENT -/
theorem proved : Rows.NatSmallSaid :=
  over
#print axioms proved
end Go.Proofs.Ygcsaf.natSmall
