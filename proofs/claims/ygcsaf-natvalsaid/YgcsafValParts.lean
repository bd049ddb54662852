import Derived.Test.YgcsafSub
import Derived.Test.YgcsafLow
import Derived.Test.YgcsafDigits4
namespace Go.Proofs.Ygcsaf
open Go.RowKit
set_option linter.unusedVariables false
set_option linter.unusedSimpArgs false

/-- The cell of a slice that came in, in a world where only block g has turned since. -/
theorem Rd.cellOnly {w w2 wr : World} {a : Option Addr} {len : Nat} {l : List Nat} (h : Rd w a len l) (hb : Below w.heap.size w w2) {g : Nat} (ho : Only g w2 wr) (hg : w.heap.size ≤ g) {k : Nat} (hk : k < len) :
    ∃ b off, a = some ⟨b, off, none⟩ ∧ b < w.heap.size ∧ wr.cell? ⟨b, off + k, none⟩ = some (.int .u8 ((l.getD k 0 : Nat) : Int)) := by
  obtain ⟨b, off, e, hlt, hc⟩ := h.cell k hk
  refine ⟨b, off, e, hlt, ?_⟩
  rw [ho.cell (p := ⟨b, off + k, none⟩) (show b ≠ g by omega), hb.cell (p := ⟨b, off + k, none⟩) hlt]
  exact hc

theorem getD_past {l : List Nat} {k : Nat} (h : l.length ≤ k) : l.getD k 0 = 0 := by simp [List.getElem?_eq_none h]

set_option maxHeartbeats 1000000 in
theorem sumDigits_any (w : World) (xa ya : Option Addr) (la ca lb cb : Nat) (X Y : List Nat) (hx : Rd w xa la X) (hy : Rd w ya lb Y) (hla : la ≤ ca) (hlb : lb ≤ cb) (hca : ca ≤ 140737488351240) (hcb : cb ≤ 140737488351240) :
    Calls Safg.prog 83 #[.slice xa la ca, .slice ya lb cb] w fun e w' => ∃ a' l, e = .returned (.slice a' l.length l.length) ∧ Rd w' a' l.length l ∧ D.Nm l ∧ D.val l = D.val X + D.val Y ∧ Below w.heap.size w w' := by
  have hxl := hx.length
  have hyl := hy.length
  obtain ⟨n, hn, hn1, hn2⟩ : ∃ n : Nat, (if la < lb then (lb : Int) else (la : Int)) = (n : Int) ∧ la ≤ n ∧ lb ≤ n := ⟨if la < lb then lb else la, by split <;> rfl, by split <;> omega, by split <;> omega⟩
  have hnn : n = la ∨ n = lb := by split at hn <;> omega
  have HN : Hid ((if la < lb then (lb : Int) else (la : Int)) = (n : Int)) := hn
  clear hn
  go_enter Safg.func83, Safg.ntmps83
  go_upto_region 2 with fail
  rw [HN.out]
  go_upto_region 5 with (refine wpList_make_bytes _ rfl _ _ 30 rfl Safg.underlying30 .i64 .i64 _ _ (n + 1) rfl rfl (by omega) (by omega) (by omega) ?_; intro w2 g hg o2 b2)
  go_loopw [7, 20] (fun cv i wr => ∃ (k c : Nat) (L : List Nat), k ≤ n + 1 ∧ i = .int .i64 k ∧ cv = .int .i64 (c : Int) ∧ c ≤ 1 ∧ Own wr g L ∧ Only g w2 wr ∧ L.length = n + 1 ∧ D.Dig L ∧ D.val (L.take k) + c * 256 ^ k = D.val (X.take k) + D.val (Y.take k)) (fun _ i _ => n + 1 - (intOf i).toNat)
  case atStart => exact ⟨0, 0, _, Nat.zero_le _, rfl, rfl, by omega, o2, Only.refl _ _, by simp, D.Dig.replicate _, by simp [D.val]⟩
  case round =>
    obtain ⟨k, c, L, hk, rfl, rfl, hc1, ownr, onlyr, hL, hdL, hinv⟩ := hrel
    have HI : Hid (D.val (L.take k) + c * 256 ^ k = D.val (X.take k) + D.val (Y.take k)) := hinv
    clear hinv
    by_cases hkn : k < n + 1
    · have hcell3 := ownr.cell k (by omega)
      have hfr := ownr.free k
      have HS : Hid (∀ s, s = c + X.getD k 0 + Y.getD k 0 → D.val ((L.set k (s % 256)).take (k + 1)) + (s / 256) * 256 ^ (k + 1) = D.val (X.take (k + 1)) + D.val (Y.take (k + 1))) := fun s hs => D.add_step (by omega) HI.out hs
      by_cases hka : k < la
      · obtain ⟨b, off, e1, hbl1, hcu⟩ := hx.cellOnly b2 onlyr hg hka
        have hdu := hx.dig.getD k
        by_cases hkb : k < lb
        · obtain ⟨b', off', e2, hbl2, hcv⟩ := hy.cellOnly b2 onlyr hg hkb
          have hdv := hy.dig.getD k
          generalize X.getD k 0 = x at hcu hdu HS
          generalize Y.getD k 0 = y at hcv hdv HS
          subst e1
          subst e2
          go_wp2
          go_roundw
          case rel => exact ⟨k + 1, (c + x + y) / 256, _, by omega, by go_num, by go_num, by omega, ownr.setI (k := k) (by omega) ((c + x + y) % 256) (by omega), onlyr.setCell _ _, by simpa using hL, hdL.set _ (by omega), HS.out _ rfl⟩
          case measure => simp [intOf]; omega
        · rw [getD_past (l := Y) (k := k) (by omega)] at HS
          generalize X.getD k 0 = x at hcu hdu HS
          subst e1
          go_wp2
          go_roundw
          case rel => exact ⟨k + 1, (c + x + 0) / 256, _, by omega, by go_num, by go_num, by omega, ownr.setI (k := k) (by omega) ((c + x + 0) % 256) (by omega), onlyr.setCell _ _, by simpa using hL, hdL.set _ (by omega), HS.out _ rfl⟩
          case measure => simp [intOf]; omega
      · rw [getD_past (l := X) (k := k) (by omega)] at HS
        by_cases hkb : k < lb
        · obtain ⟨b', off', e2, hbl2, hcv⟩ := hy.cellOnly b2 onlyr hg hkb
          have hdv := hy.dig.getD k
          generalize Y.getD k 0 = y at hcv hdv HS
          subst e2
          go_wp2
          go_roundw
          case rel => exact ⟨k + 1, (c + 0 + y) / 256, _, by omega, by go_num, by go_num, by omega, ownr.setI (k := k) (by omega) ((c + 0 + y) % 256) (by omega), onlyr.setCell _ _, by simpa using hL, hdL.set _ (by omega), HS.out _ rfl⟩
          case measure => simp [intOf]; omega
        · rw [getD_past (l := Y) (k := k) (by omega)] at HS
          go_wp2
          go_roundw
          case rel => exact ⟨k + 1, (c + 0 + 0) / 256, _, by omega, by go_num, by go_num, by omega, ownr.setI (k := k) (by omega) ((c + 0 + 0) % 256) (by omega), onlyr.setCell _ _, by simpa using hL, hdL.set _ (by omega), HS.out _ rfl⟩
          case measure => simp [intOf]; omega
    · have hkU : k = n + 1 := by omega
      subst hkU
      have hrd := ownr.rd hdL
      rw [hL] at hrd
      have HT : Hid (D.val (D.trimL L) = D.val X + D.val Y) := by
        show _ = _
        have h1 := HI.out
        rw [D.take_all (show L.length ≤ n + 1 by omega), D.take_all (show X.length ≤ n + 1 by omega), D.take_all (show Y.length ≤ n + 1 by omega)] at h1
        have h2 : D.val X < 256 ^ n := Nat.lt_of_lt_of_le (D.val_lt hx.dig) (Nat.pow_le_pow_right (by omega) (by omega))
        have h3 : D.val Y < 256 ^ n := Nat.lt_of_lt_of_le (D.val_lt hy.dig) (Nat.pow_le_pow_right (by omega) (by omega))
        have h4 : c = 0 := D.carry_zero h1 (by rw [Nat.pow_succ]; omega)
        rw [h4] at h1
        rw [D.trimL_val]
        omega
      have hrt := hrd.trim
      go_wp2_with (go_at_call 39; refine (lowDigits_any _ _ _ _ L hrd (Nat.le_refl _) (by omega)).mono ?_; rintro e w3 ⟨rfl, hw⟩; subst hw)
      go_ret
      exact ⟨_, _, rfl, hrt, D.trimL_nm _, HT.out, b2.trans (onlyr.below hg)⟩

set_option maxHeartbeats 1000000 in
theorem lessDigits_any (w : World) (xa ya : Option Addr) (la ca lb cb : Nat) (X Y : List Nat) (hx : Rd w xa la X) (hy : Rd w ya lb Y) (hla : la ≤ ca) (hlb : lb ≤ cb) (hca : ca ≤ 140737488351240) (hcb : cb ≤ 140737488351240) (hle : lb ≤ la) (hge : Hid (D.val Y ≤ D.val X)) :
    Calls Safg.prog 86 #[.slice xa la ca, .slice ya lb cb] w fun e w' => ∃ a' l, e = .returned (.slice a' l.length l.length) ∧ Rd w' a' l.length l ∧ D.Nm l ∧ D.val l = D.val X - D.val Y ∧ Below w.heap.size w w' := by
  have hxl := hx.length
  have hyl := hy.length
  go_enter Safg.func86, Safg.ntmps86
  go_upto_region 4 with (refine wpList_make_bytes _ rfl _ _ 30 rfl Safg.underlying30 .i64 .i64 _ _ la rfl rfl (by omega) (by omega) (by omega) ?_; intro w2 g hg o2 b2)
  go_loopw [6, 14] (fun cv i wr => ∃ (k bw : Nat) (L : List Nat), k ≤ la ∧ i = .int .i64 k ∧ cv = .int .i64 (bw : Int) ∧ bw ≤ 1 ∧ Own wr g L ∧ Only g w2 wr ∧ L.length = la ∧ D.Dig L ∧ D.val (L.take k) + D.val (Y.take k) = D.val (X.take k) + bw * 256 ^ k) (fun _ i _ => la - (intOf i).toNat)
  case atStart => exact ⟨0, 0, _, Nat.zero_le _, rfl, rfl, by omega, o2, Only.refl _ _, by simp, D.Dig.replicate _, by simp [D.val]⟩
  case round =>
    obtain ⟨k, bw, L, hk, rfl, rfl, hbw, ownr, onlyr, hL, hdL, hinv⟩ := hrel
    have HI : Hid (D.val (L.take k) + D.val (Y.take k) = D.val (X.take k) + bw * 256 ^ k) := hinv
    clear hinv
    by_cases hkn : k < la
    · have hcell3 := ownr.cell k (by omega)
      have hfr := ownr.free k
      have HS : Hid (∀ s v bw', s = bw + Y.getD k 0 → v + s = X.getD k 0 + 256 * bw' → D.val ((L.set k v).take (k + 1)) + D.val (Y.take (k + 1)) = D.val (X.take (k + 1)) + bw' * 256 ^ (k + 1)) := fun s v bw' h1 h2 => D.take_step (by omega) HI.out h1 h2
      obtain ⟨b, off, e1, hbl1, hcu⟩ := hx.cellOnly b2 onlyr hg hkn
      have hdu := hx.dig.getD k
      by_cases hkb : k < lb
      · obtain ⟨b', off', e2, hbl2, hcv⟩ := hy.cellOnly b2 onlyr hg hkb
        have hdv := hy.dig.getD k
        generalize X.getD k 0 = x at hcu hdu HS
        generalize Y.getD k 0 = y at hcv hdv HS
        subst e1
        subst e2
        by_cases hlt : x < bw + y
        · go_wp2
          go_roundw
          case rel => exact ⟨k + 1, 1, _, by omega, by go_num, rfl, by omega, ownr.setI (k := k) (by omega) (x + 256 - (bw + y)) (by omega), onlyr.setCell _ _, by simpa using hL, hdL.set _ (by omega), HS.out _ _ _ rfl (by omega)⟩
          case measure => simp [intOf]; omega
        · go_wp2
          go_roundw
          case rel => exact ⟨k + 1, 0, _, by omega, by go_num, rfl, by omega, ownr.setI (k := k) (by omega) (x - (bw + y)) (by omega), onlyr.setCell _ _, by simpa using hL, hdL.set _ (by omega), HS.out _ _ _ rfl (by omega)⟩
          case measure => simp [intOf]; omega
      · rw [getD_past (l := Y) (k := k) (by omega)] at HS
        generalize X.getD k 0 = x at hcu hdu HS
        subst e1
        by_cases hlt : x < bw
        · go_wp2
          go_roundw
          case rel => exact ⟨k + 1, 1, _, by omega, by go_num, rfl, by omega, ownr.setI (k := k) (by omega) (x + 256 - bw) (by omega), onlyr.setCell _ _, by simpa using hL, hdL.set _ (by omega), HS.out _ _ _ rfl (by omega)⟩
          case measure => simp [intOf]; omega
        · go_wp2
          go_roundw
          case rel => exact ⟨k + 1, 0, _, by omega, by go_num, rfl, by omega, ownr.setI (k := k) (by omega) (x - bw) (by omega), onlyr.setCell _ _, by simpa using hL, hdL.set _ (by omega), HS.out _ _ _ rfl (by omega)⟩
          case measure => simp [intOf]; omega
    · have hkU : k = la := by omega
      subst hkU
      have hrd := ownr.rd hdL
      rw [hL] at hrd
      have HT : Hid (D.val (D.trimL L) = D.val X - D.val Y) := by
        show _ = _
        have h1 := HI.out
        rw [D.take_all (show L.length ≤ k by omega), D.take_all (show X.length ≤ k by omega), D.take_all (show Y.length ≤ k by omega)] at h1
        have h2 := D.val_lt hdL
        rw [hL] at h2
        have h3 := hge.out
        have h4 : bw = 0 := D.carry_zero (v := D.val X - D.val Y) (P := 256 ^ k) (t := D.val L) (by omega) h2
        rw [h4] at h1
        rw [D.trimL_val]
        omega
      have hrt := hrd.trim
      go_wp2_with (go_at_call 39; refine (lowDigits_any _ _ _ _ L hrd (Nat.le_refl _) (by omega)).mono ?_; rintro e w3 ⟨rfl, hw⟩; subst hw)
      go_ret
      exact ⟨_, _, rfl, hrt, D.trimL_nm _, HT.out, b2.trans (onlyr.below hg)⟩

set_option maxHeartbeats 1000000 in
theorem orderDigits_any (w : World) (xa ya : Option Addr) (ca cb : Nat) (X Y : List Nat) (hx : Rd w xa X.length X) (hy : Rd w ya Y.length Y) (nX : D.Nm X) (nY : D.Nm Y) (hca : X.length ≤ 9223372036854775806) (hcb : Y.length ≤ 9223372036854775806) :
    Calls Safg.prog 85 #[.slice xa X.length ca, .slice ya Y.length cb] w fun e w' => e = .returned (.int .i8 (D.cmpN (D.val X) (D.val Y))) ∧ w' = w := by
  by_cases hlt : X.length < Y.length
  · have HC : Hid (D.cmpN (D.val X) (D.val Y) = -1) := D.cmpN_lt (D.lt_of_len hx.dig nY hlt)
    go_enter Safg.func85, Safg.ntmps85
    go_wp2
    go_ret
    exact ⟨ret_int HC.out.symm, rfl⟩
  by_cases hgt : Y.length < X.length
  · have HC : Hid (D.cmpN (D.val X) (D.val Y) = 1) := D.cmpN_gt (D.lt_of_len hy.dig nX hgt)
    go_enter Safg.func85, Safg.ntmps85
    go_wp2
    go_ret
    exact ⟨ret_int HC.out.symm, rfl⟩
  go_enter Safg.func85, Safg.ntmps85
  go_upto_region 7 with fail
  go_loop [5, 20] (fun ov i => ∃ (k : Nat) (o : Int), k ≤ X.length ∧ i = .int .i64 k ∧ ov = .int .i8 o ∧ o = D.cmpN (D.val (X.take k)) (D.val (Y.take k))) (fun _ i => X.length - (intOf i).toNat)
  case atStart => exact ⟨0, 0, Nat.zero_le _, rfl, rfl, by simp [D.val, D.cmpN]⟩
  case round =>
    obtain ⟨k, o, hk, rfl, rfl, ho⟩ := hrel
    have HO : Hid (o = D.cmpN (D.val (X.take k)) (D.val (Y.take k))) := ho
    clear ho
    by_cases hkn : k < X.length
    · obtain ⟨b, off, e1, hb1, hc1⟩ := hx.cell k hkn
      obtain ⟨b', off', e2, hb2, hc2⟩ := hy.cell k (by omega)
      have HLT : Hid (X.getD k 0 < Y.getD k 0 → (-1 : Int) = D.cmpN (D.val (X.take (k + 1))) (D.val (Y.take (k + 1)))) := fun hh => (D.cmpN_lt (D.cmp_step_lt hx.dig hkn hh)).symm
      have HGT : Hid (Y.getD k 0 < X.getD k 0 → (1 : Int) = D.cmpN (D.val (X.take (k + 1))) (D.val (Y.take (k + 1)))) := fun hh => (D.cmpN_gt (D.cmp_step_lt hy.dig (by omega) hh)).symm
      have HEQ : Hid (X.getD k 0 = Y.getD k 0 → o = D.cmpN (D.val (X.take (k + 1))) (D.val (Y.take (k + 1)))) := fun hh => by rw [D.cmp_step_eq hh]; exact HO.out
      generalize X.getD k 0 = x at hc1 HLT HGT HEQ
      generalize Y.getD k 0 = y at hc2 HLT HGT HEQ
      subst e1
      subst e2
      by_cases hxy : x < y
      · go_wp2
        go_round
        case rel => exact ⟨k + 1, -1, by omega, by go_num, rfl, HLT.out hxy⟩
        case measure => simp [intOf]; omega
      by_cases hyx : y < x
      · go_wp2
        go_round
        case rel => exact ⟨k + 1, 1, by omega, by go_num, rfl, HGT.out hyx⟩
        case measure => simp [intOf]; omega
      · go_wp2
        go_round
        case rel => exact ⟨k + 1, o, by omega, by go_num, rfl, HEQ.out (by omega)⟩
        case measure => simp [intOf]; omega
    · have HC : Hid (o = D.cmpN (D.val X) (D.val Y)) := by show _ = _; rw [HO.out, D.take_all (show X.length ≤ k by omega), D.take_all (show Y.length ≤ k by omega)]
      go_wp2
      go_ret
      exact ⟨ret_int HC.out, rfl⟩
end Go.Proofs.Ygcsaf
