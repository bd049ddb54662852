import Derived.Test.YgcsafGreatSub
import Derived.Test.YgcsafGreatDigits3
namespace Go.Proofs.YgcsafGreat
open Go.RowKit
set_option linter.unusedVariables false
set_option linter.unusedSimpArgs false

theorem and_one (x b : Nat) (hx : x < 256) : bits .and .u8 ((x : Int) / 2 ^ b) 1 = ((x / 2 ^ b % 2 : Nat) : Int) := by
  have h1 : x / 2 ^ b ≤ x := Nat.div_le_self _ _
  have e : (x : Int) / 2 ^ b = ((x / 2 ^ b : Nat) : Int) := by simp
  rw [e, show (1 : Int) = ((1 : Nat) : Int) by rfl, u8_and_nat _ _ (by omega) (by omega), Nat.and_one_is_mod]

theorem or_low (d c : Nat) (hc : c ≤ 1) : bits .or .u8 ((d : Int) * 2 % 256) (c : Int) = ((d * 2 % 256 + c : Nat) : Int) := by
  have e : (d : Int) * 2 % 256 = ((d * 2 % 256 : Nat) : Int) := by omega
  rw [e, u8_or_nat _ _ (by omega) (by omega)]
  congr 1
  have e2 : d * 2 % 256 = 2 ^ 1 * (d * 2 % 256 / 2) := by omega
  rw [e2, ← Nat.two_pow_add_eq_or_of_lt (i := 1) (by omega)]

theorem or_bit (z b : Nat) (hb : b < 8) (h : z % 2 ^ (b + 1) = 0) (h2 : z + 2 ^ b < 256) : bits .or .u8 (z : Int) (2 ^ b % 256) = ((z + 2 ^ b : Nat) : Int) := by
  have e : ((2 : Int) ^ b % 256) = ((2 ^ b : Nat) : Int) := by
    have h3 : 2 ^ b < 256 := by omega
    have : ((2 ^ b : Nat) : Int) = (2 : Int) ^ b := by simp
    omega
  rw [e, u8_or_nat _ _ (by omega) (by omega), D.or_free z b hb h]

set_option maxHeartbeats 2000000 in
theorem divMod_any (w : World) (xa ya : Option Addr) (la ca lb cb : Nat) (A B : List Nat) (ha : Rd w xa la A) (hb : Rd w ya lb B) (hla : la ≤ ca) (hlb : lb ≤ cb) (hca : ca ≤ 281474976710655) (hcb : cb ≤ 281474976710655) :
    Calls Safg.prog 101 #[.slice xa la ca, .slice ya lb cb] w fun e w' => Below w.heap.size w w' ∧
      ((D.val B = 0 ∧ e = .returned (.tuple #[.slice none 0 0, .slice none 0 0, .bool false])) ∨ (0 < D.val B ∧ ∃ qa q ra r, e = .returned (.tuple #[.slice qa q.length q.length, .slice ra r.length r.length, .bool true]) ∧ Made w.heap.size w' qa q ∧ Made w.heap.size w' ra r ∧ D.val A = D.val q * D.val B + D.val r ∧ D.val r < D.val B ∧ q.length ≤ la ∧ r.length ≤ lb + 1)) := by
  have hal := ha.length
  have hbl := hb.length
  have htA := D.trimL_len A
  have htB := D.trimL_len B
  have hrX := ha.trim
  have hrY := hb.trim
  have hnY := D.trimL_nm B
  have HVA : Hid (D.val A = D.val (D.trimL A)) := (D.trimL_val A).symm
  have HVB : Hid (D.val B = D.val (D.trimL B)) := (D.trimL_val B).symm
  go_enter Safg.func101, Safg.ntmps101
  go_upto_region 2 with (go_at_call 96; refine (trim_any _ _ _ _ A ha hla (by omega)).mono ?_; rintro e w' ⟨rfl, hw⟩; subst hw)
  go_upto_region 3 with (go_at_call 96; refine (trim_any _ _ _ _ B hb hlb (by omega)).mono ?_; rintro e w1 ⟨rfl, hw⟩; subst hw)
  generalize D.trimL A = X at *
  generalize D.trimL B = Y at *
  by_cases h0 : Y.length = 0
  · have hY : Y = [] := List.length_eq_zero_iff.1 h0
    subst hY
    go_wp2
    go_ret3
    exact ⟨Below.refl _ _, .inl ⟨by rw [HVB.out]; rfl, rfl⟩⟩
  · have h0' : (((Y.length : Nat) : Int) == 0) = false := by simpa using h0
    have hYne : Y ≠ [] := fun e => h0 (by rw [e]; rfl)
    have hDpos : 0 < D.val Y := Nat.lt_of_lt_of_le (Nat.pow_pos (by omega)) (hnY.val_ge hYne)
    go_upto_region 6 with (refine wpList_make_bytes _ rfl _ _ 98 rfl Safg.underlying98 .i64 .i64 _ _ X.length rfl rfl rfl rfl (by omega) ?_; intro w2 gq hgq oq2 b2)
    go_upto_region 7 with (refine wpList_make_bytes _ rfl _ _ 98 rfl Safg.underlying98 .i64 .i64 _ _ (Y.length + 1) rfl rfl (by omega) (by omega) (by omega) ?_; intro w3 gr hgr or3 b3)
    have oq3 := oq2.below b3 oq2.lt
    have hqr : gq < gr := by have := oq2.lt; omega
    have b13 : Below w1.heap.size w1 w3 := b2.trans (b3.mono b2.size)
    have hs12 := b2.size
    clear oq2 b2 b3
    go_upto_region 8 with fail
    go_loopw [9] (fun iv wr => ∃ (i q : Nat) (Q R : List Nat), i ≤ 8 * X.length ∧ iv = .int .i64 i ∧ Own wr gq Q ∧ Own wr gr R ∧ Below w1.heap.size w1 wr ∧ Q.length = X.length ∧ R.length = Y.length + 1 ∧ D.Dig Q ∧ D.Dig R ∧ D.val R < D.val Y ∧ D.val Q = q * 2 ^ i ∧ D.val X / 2 ^ i = q * D.val Y + D.val R) (fun iv _ => (intOf iv).toNat)
    case atStart => 
      refine ⟨8 * X.length, 0, _, _, Nat.le_refl _, by go_num, oq3, or3, b13, by simp, by simp, D.Dig.replicate _, D.Dig.replicate _, by rw [D.val_replicate]; exact hDpos, by rw [D.val_replicate]; simp, ?_⟩
      rw [D.val_replicate, Nat.zero_mul, Nat.pow_mul]
      exact Nat.div_eq_of_lt (D.val_lt hrX.dig)
    case round =>
      obtain ⟨i, q, Q, R, hi, rfl, oq, or, bel, hQ, hR, dQ, dR, hRlt, hvQ, hdiv⟩ := hrel
      have HVQ : Hid (D.val Q = q * 2 ^ i) := hvQ
      have HDV : Hid (D.val X / 2 ^ i = q * D.val Y + D.val R) := hdiv
      clear hvQ hdiv
      obtain ⟨wo, hwo⟩ : ∃ wo : World, wo = wr := ⟨_, rfl⟩
      subst hwo
      by_cases hi0 : i = 0
      · subst hi0
        have HQV : Hid (D.val (D.trimL Q) = q) := by show _ = _; rw [D.trimL_val, HVQ.out]; simp
        have HRV : Hid (D.val (D.trimL R) = D.val R) := D.trimL_val R
        have HFIN : Hid (D.val A = q * D.val B + D.val R) := by show _ = _; rw [HVA.out, HVB.out]; have := HDV.out; simpa using this
        have htQ := D.trimL_len Q
        have htR := D.trimL_len R
        go_wp2_with fail
        refine (clip_any _ gq X.length w1.heap.size Q oq dQ hQ hgq (by omega)).mono ?_
        rintro e w5 ⟨qa, rfl, hmq, hw⟩
        subst hw
        go_wp2_with fail
        refine (clip_any _ gr (Y.length + 1) w1.heap.size R or dR hR (by omega) (by omega)).mono ?_
        rintro e w6 ⟨ra, rfl, hmr, hw⟩
        subst hw
        go_wp2
        go_ret3
        exact ⟨bel, .inr ⟨by rw [HVB.out]; exact hDpos, qa, _, ra, _, rfl, hmq, hmr, by rw [HQV.out, HRV.out]; exact HFIN.out, by rw [HRV.out, HVB.out]; exact hRlt, by omega, by omega⟩⟩
      · obtain ⟨m, rfl⟩ : ∃ m, i = m + 1 := ⟨i - 1, by omega⟩
        have hm8 : m / 8 < X.length := by omega
        obtain ⟨b, off, e1, hb1, hc1⟩ := hrX.cell (m / 8) hm8
        have hcx : wo.cell? ⟨b, off + m / 8, none⟩ = some (.int .u8 ((X.getD (m / 8) 0 : Nat) : Int)) := by rw [bel.cell (p := ⟨b, off + m / 8, none⟩) hb1]; exact hc1
        have hdx := hrX.dig.getD (m / 8)
        have HBIT : Hid (X.getD (m / 8) 0 / 2 ^ (m % 8) % 2 = D.val X / 2 ^ m % 2) := D.bit_at hrX.dig m
        clear hc1
        generalize X.getD (m / 8) 0 = x at hcx hdx HBIT
        subst e1
        go_upto_region 14 with fail
        have hbit : D.val X / 2 ^ m % 2 ≤ 1 := by omega
        have HB1 : Hid (bits .and .u8 ((x : Int) / 2 ^ (m % 8)) 1 = ((D.val X / 2 ^ m % 2 : Nat) : Int)) := by
          show _ = _
          rw [← HBIT.out]
          exact and_one x (m % 8) hdx
        have HDS : Hid (D.val X / 2 ^ m = 2 * q * D.val Y + (2 * D.val R + D.val X / 2 ^ m % 2)) := D.div_step HDV.out
        generalize hbb : D.val X / 2 ^ m % 2 = bit at *
        clear hbb
        go_loopw [12, 52] (fun cv iv wr => ∃ (k c : Nat) (S : List Nat), k ≤ Y.length + 1 ∧ iv = .int .i64 k ∧ cv = .int .u8 (c : Int) ∧ c ≤ 1 ∧ Own wr gr S ∧ Only gr wo wr ∧ S.length = Y.length + 1 ∧ D.Dig S ∧ D.val (S.take k) + c * 256 ^ k = 2 * D.val (R.take k) + bit ∧ ∀ p, k ≤ p → S.getD p 0 = R.getD p 0) (fun _ iv _ => Y.length + 1 - (intOf iv).toNat)
        case atStart => exact ⟨0, bit, R, by omega, rfl, by rw [HB1.out], hbit, or, Only.refl _ _, hR, dR, by simp [D.val], fun p _ => rfl⟩
        case round =>
          obtain ⟨k, c, S, hk, rfl, rfl, hc1, os, onlys, hS, dS, hinv, hz⟩ := hrel
          have HI : Hid (D.val (S.take k) + c * 256 ^ k = 2 * D.val (R.take k) + bit) := hinv
          have HZ : Hid (∀ p, k ≤ p → S.getD p 0 = R.getD p 0) := hz
          clear hinv hz
          by_cases hkn : k < Y.length + 1
          · have hcell3 := os.cell k (by omega)
            rw [HZ.out k (Nat.le_refl _)] at hcell3
            have hdl := dR.getD k
            have hfr := os.free k
            have HS : Hid (∀ v c', v + 256 * c' = 2 * R.getD k 0 + c → D.val ((S.set k v).take (k + 1)) + c' * 256 ^ (k + 1) = 2 * D.val (R.take (k + 1)) + bit) := fun v c' h1 => D.dbl_step (by omega) HI.out h1
            have HZ2 : Hid (∀ v p, k + 1 ≤ p → (S.set k v).getD p 0 = R.getD p 0) := fun v p hp => by rw [D.getD_set (by omega), if_neg (by omega)]; exact HZ.out p (by omega)
            generalize R.getD k 0 = d at hcell3 hdl HS
            go_wp2
            go_roundw
            case rel =>
              refine ⟨k + 1, d / 128, _, by omega, by go_num, by go_num, by omega, os.setI (k := k) (by omega) (d * 2 % 256 + c) (or_low d c hc1), onlys.setCell _ _, by simpa using hS, dS.set _ (by omega), HS.out _ _ (by omega), HZ2.out _⟩
            case measure => simp [intOf]; omega
          · have hkn' : k = Y.length + 1 := by omega
            subst hkn'
            have HV : Hid (D.val S = 2 * D.val R + bit) := by
              show _ = _
              have h1 := HI.out
              rw [D.take_all (show S.length ≤ Y.length + 1 by omega), D.take_all (show R.length ≤ Y.length + 1 by omega)] at h1
              have h2 := D.val_lt hrY.dig
              have h3 : c = 0 := by
                rcases Nat.eq_zero_or_pos c with h | h
                · exact h
                · exfalso
                  have : 256 ^ (Y.length + 1) ≤ c * 256 ^ (Y.length + 1) := Nat.le_mul_of_pos_left _ h
                  rw [Nat.pow_succ] at this h1
                  omega
              rw [h3] at h1
              omega
            have belr : Below w1.heap.size w1 wr := bel.trans (onlys.below (by omega))
            have oqr := onlys.own oq (by omega)
            have hrYr := hrY.below belr
            have hrS := os.rd dS
            rw [hS] at hrS
            clear HI HZ HB1 HBIT
            go_upto_region 19 with fail
            go_wp2_with fail
            refine (cmp_any _ _ _ _ _ _ _ S Y hrS hrYr (Nat.le_refl _) (Nat.le_refl _) (by omega) (by omega)).mono ?_
            rintro e w5 ⟨rfl, hs5⟩
            have bel5 := belr.trans (hs5.below _)
            have oq5 := hs5.own oqr
            have os5 := hs5.own os
            have hrY5 := hrYr.below (hs5.below _)
            by_cases hcmp : D.val S < D.val Y
            · rw [D.cmpN_lt hcmp]
              go_wp2
              go_roundw
              case rel => 
                refine ⟨m, 2 * q, Q, S, by omega, by go_num, oq5, os5, bel5, hQ, hS, dQ, dS, hcmp, ?_, ?_⟩
                · rw [HVQ.out, Nat.pow_succ, Nat.mul_comm 2 q, Nat.mul_assoc, Nat.mul_comm 2]
                · rw [HDS.out, HV.out]
              case measure => simp [intOf]
            · obtain ⟨cv, hcv, hcv0⟩ : ∃ cv, D.cmpN (D.val S) (D.val Y) = cv ∧ 0 ≤ cv := ⟨_, rfl, by unfold D.cmpN; rw [if_neg hcmp]; split <;> omega⟩
              rw [hcv]
              clear hcv
              go_wp2_with fail
              refine (take_any _ gr (Y.length + 1) (Y.length + 1) S Y ya Y.length Y.length os5 dS hS hrY5 ?_ (by omega) (by omega)).mono ?_
              · intro hpos b' off' e
                obtain ⟨b2, off2, e', hlt', _⟩ := hrY.cell 0 hpos
                have e'' : (⟨b', off', none⟩ : Addr) = ⟨b2, off2, none⟩ := Option.some.inj (e.symm.trans e')
                have e3 : b' = b2 := congrArg Addr.block e''
                omega
              rintro e w6 ⟨L, bw, rfl, hbw, o6, only6, hL6, hd6, hv6⟩
              have HF : Hid (D.val L + D.val Y = D.val S) := by
                show _ = _
                have h1 := D.val_lt hd6
                rw [hL6] at h1
                have h2 : bw = 0 := by
                  rcases Nat.eq_zero_or_pos bw with h | h
                  · exact h
                  · exfalso
                    have : 256 ^ (Y.length + 1) ≤ bw * 256 ^ (Y.length + 1) := Nat.le_mul_of_pos_left _ h
                    omega
                rw [h2] at hv6
                omega
              clear hv6
              have oq6 := only6.own oq5 (by omega)
              have bel6 := bel5.trans (only6.below (by omega))
              have hqc := oq6.cell (m / 8) (by omega)
              have hqf := oq6.free (m / 8)
              have hdq := dQ.getD (m / 8)
              have HFREE : Hid (Q.getD (m / 8) 0 % 2 ^ (m % 8 + 1) = 0 ∧ Q.getD (m / 8) 0 + 2 ^ (m % 8) < 256) := D.free_at dQ HVQ.out
              have HLAY : Hid (D.val (Q.set (m / 8) (Q.getD (m / 8) 0 + 2 ^ (m % 8))) = (2 * q + 1) * 2 ^ m) := D.lay_bit (by omega) HVQ.out
              have orr : ∀ u, Own (w6.setCell ⟨gq, m / 8, none⟩ u) gr L := fun u => ((Only.refl gq w6).setCell (m / 8) u).own o6 (by omega)
              generalize Q.getD (m / 8) 0 = z at hqc hdq HFREE HLAY
              go_wp2
              go_roundw
              case rel => 
                refine ⟨m, 2 * q + 1, _, L, by omega, rfl, oq6.setI (k := m / 8) (by omega) (z + 2 ^ (m % 8)) (or_bit z (m % 8) (by omega) HFREE.out.1 HFREE.out.2), orr _, bel6.setCell (by exact hgq) _, by simpa using hQ, hL6, dQ.set _ HFREE.out.2, hd6, ?_, HLAY.out, ?_⟩
                · have h1 := HF.out
                  have h2 := HV.out
                  omega
                · have h1 := HF.out
                  have h2 := HV.out
                  rw [HDS.out, Nat.add_mul, Nat.one_mul]
                  omega
              case measure => simp [intOf]
end Go.Proofs.YgcsafGreat
