import Derived.Test.YgcsafValParts
namespace Go.Proofs.Ygcsaf
open Go.RowKit
set_option linter.unusedVariables false
set_option linter.unusedSimpArgs false

set_option maxHeartbeats 2000000 in
theorem productDigits_any (w : World) (xa ya : Option Addr) (la ca lb cb : Nat) (X Y : List Nat) (hx : Rd w xa la X) (hy : Rd w ya lb Y) (hla : la ≤ ca) (hlb : lb ≤ cb) (hca : ca ≤ 140737488351232) (hcb : cb ≤ 140737488351232) :
    Calls Safg.prog 84 #[.slice xa la ca, .slice ya lb cb] w fun e w' => ∃ a' l, e = .returned (.slice a' l.length l.length) ∧ Rd w' a' l.length l ∧ D.Nm l ∧ D.val l = D.val X * D.val Y ∧ Below w.heap.size w w' := by
  have hxl := hx.length
  have hyl := hy.length
  go_enter Safg.func84, Safg.ntmps84
  go_upto_region 4 with (refine wpList_make_bytes _ rfl _ _ 30 rfl Safg.underlying30 .i64 .i64 _ _ (la + lb) rfl rfl (by omega) (by omega) (by omega) ?_; intro w2 g hg o2 b2)
  go_loopw [6, 17] (fun cv i wr => ∃ (k c : Nat) (L : List Nat), k ≤ la + lb ∧ i = .int .i64 k ∧ cv = .int .u64 (c : Int) ∧ c ≤ 255 * la ∧ Own wr g L ∧ Only g w2 wr ∧ L.length = la + lb ∧ D.Dig L ∧ D.val (L.take k) + c * 256 ^ k = D.pr X Y k) (fun _ i _ => la + lb - (intOf i).toNat)
  case atStart => exact ⟨0, 0, _, Nat.zero_le _, rfl, rfl, by omega, o2, Only.refl _ _, by simp, D.Dig.replicate _, by simp [D.val, D.pr]⟩
  case round =>
    obtain ⟨k, c, L, hk, rfl, rfl, hc1, ownr, onlyr, hL, hdL, hinv⟩ := hrel
    have HI : Hid (D.val (L.take k) + c * 256 ^ k = D.pr X Y k) := hinv
    clear hinv
    obtain ⟨wo, hwo⟩ : ∃ wo : World, wo = wr := ⟨_, rfl⟩
    subst hwo
    by_cases hkn : k < la + lb
    · by_cases hs : lb ≤ k
      · obtain ⟨st, hst⟩ : ∃ st, st + lb = k + 1 := ⟨k + 1 - lb, by omega⟩
        have HP0 : Hid (D.ps X Y k st = 0) := D.ps_start X Y k st (by omega)
        go_upto_region 7 with fail
        go_loopw [6, 8] (fun cv iv wr => ∃ (i s : Nat), st ≤ i ∧ i ≤ la ∧ i ≤ k + 1 ∧ iv = .int .i64 i ∧ cv = .int .u64 (s : Int) ∧ s ≤ 255 * la + 65025 * i ∧ s = c + D.ps X Y k i ∧ Same wo wr) (fun _ iv _ => la - (intOf iv).toNat)
        case atStart => exact ⟨st, c, Nat.le_refl _, by omega, by omega, by go_num, rfl, by omega, by rw [HP0.out]; rfl, Same.refl _⟩
        case round =>
          obtain ⟨i, s, hi1, hi2, hi3, rfl, rfl, hs1, hs2, hsame⟩ := hrel
          have HS2 : Hid (s = c + D.ps X Y k i) := hs2
          clear hs2
          by_cases hin : i < la ∧ i ≤ k
          · obtain ⟨hin1, hin2⟩ := hin
            obtain ⟨b, off, e1, hbl1, hcu⟩ := hx.cellOnly b2 onlyr hg hin1
            obtain ⟨b', off', e2, hbl2, hcv⟩ := hy.cellOnly b2 onlyr hg (show k - i < lb by omega)
            rw [← hsame.cell] at hcu hcv
            have hdu := hx.dig.getD i
            have hdv := hy.dig.getD (k - i)
            have HS3 : Hid (s + X.getD i 0 * Y.getD (k - i) 0 = c + D.ps X Y k (i + 1)) := by show _ = _; rw [HS2.out, D.ps]; omega
            generalize X.getD i 0 = x at hcu hdu HS3
            generalize Y.getD (k - i) 0 = y at hcv hdv HS3
            have hxy : x * y ≤ 65025 := Nat.mul_le_mul (show x ≤ 255 by omega) (show y ≤ 255 by omega)
            have HXY : Hid (((x * y : Nat) : Int) = (x : Int) * (y : Int)) := Int.natCast_mul x y
            have hxy' : (x : Int) * (y : Int) ≤ 65025 := by rw [← HXY.out]; omega
            have hxy0 : 0 ≤ (x : Int) * (y : Int) := Int.mul_nonneg (by omega) (by omega)
            subst e1
            subst e2
            have hii : (i : Int) < (la : Int) := by omega
            have hki : (k : Int) - (i : Int) < (lb : Int) := by omega
            have hki0 : 0 ≤ (k : Int) - (i : Int) := by omega
            go_upto_region 9 with fail
            go_quiet (fail)
            go_wp2
            go_roundw
            case rel =>
              have hm := HXY.out
              exact ⟨i + 1, s + x * y, by omega, by omega, by omega, by go_num, by rw [show ((s : Int) + (x : Int) * y) = ((s + x * y : Nat) : Int) by omega], by omega, HS3.out, hsame.trans (Same.drewN _ _)⟩
            case measure => simp [intOf]; omega
          · have HE : Hid (s = c + D.ps X Y k (k + 1)) := by
              show _ = _
              by_cases e : i = k + 1
              · rw [← e]; exact HS2.out
              · rw [D.ps_end X Y k i (k + 1) (by omega) hi3]; exact HS2.out
            have owr := hsame.own ownr
            have hcell3 := owr.cell k (by omega)
            have hfr := owr.free k
            have HC : Hid (D.val ((L.set k (s % 256)).take (k + 1)) + (s / 256) * 256 ^ (k + 1) = D.pr X Y (k + 1)) := D.col_step (by omega) HI.out HE.out
            have hsb : s ≤ 65280 * la := by omega
            by_cases hil : i < la
            · have hik : ¬ i ≤ k := fun h => hin ⟨hil, h⟩
              clear hin
              go_wp2
              go_roundw
              case rel => exact ⟨k + 1, s / 256, _, by omega, by go_num, by go_num, by omega, owr.setI (k := k) (by omega) (s % 256) (by omega), (onlyr.trans (hsame.only g)).setCell _ _, by simpa using hL, hdL.set _ (by omega), HC.out⟩
              case measure => simp [intOf]; omega
            · clear hin
              go_wp2
              go_roundw
              case rel => exact ⟨k + 1, s / 256, _, by omega, by go_num, by go_num, by omega, owr.setI (k := k) (by omega) (s % 256) (by omega), (onlyr.trans (hsame.only g)).setCell _ _, by simpa using hL, hdL.set _ (by omega), HC.out⟩
              case measure => simp [intOf]; omega
      · obtain ⟨st, hst⟩ : ∃ st : Nat, st ≤ 0 := ⟨0, by omega⟩
        have HP0 : Hid (D.ps X Y k st = 0) := by show _ = _; rw [show st = 0 by omega]; rfl
        go_upto_region 7 with fail
        go_loopw [6, 8] (fun cv iv wr => ∃ (i s : Nat), st ≤ i ∧ i ≤ la ∧ i ≤ k + 1 ∧ iv = .int .i64 i ∧ cv = .int .u64 (s : Int) ∧ s ≤ 255 * la + 65025 * i ∧ s = c + D.ps X Y k i ∧ Same wo wr) (fun _ iv _ => la - (intOf iv).toNat)
        case atStart => exact ⟨st, c, Nat.le_refl _, by omega, by omega, by go_num, rfl, by omega, by rw [HP0.out]; rfl, Same.refl _⟩
        case round =>
          obtain ⟨i, s, hi1, hi2, hi3, rfl, rfl, hs1, hs2, hsame⟩ := hrel
          have HS2 : Hid (s = c + D.ps X Y k i) := hs2
          clear hs2
          by_cases hin : i < la ∧ i ≤ k
          · obtain ⟨hin1, hin2⟩ := hin
            obtain ⟨b, off, e1, hbl1, hcu⟩ := hx.cellOnly b2 onlyr hg hin1
            obtain ⟨b', off', e2, hbl2, hcv⟩ := hy.cellOnly b2 onlyr hg (show k - i < lb by omega)
            rw [← hsame.cell] at hcu hcv
            have hdu := hx.dig.getD i
            have hdv := hy.dig.getD (k - i)
            have HS3 : Hid (s + X.getD i 0 * Y.getD (k - i) 0 = c + D.ps X Y k (i + 1)) := by show _ = _; rw [HS2.out, D.ps]; omega
            generalize X.getD i 0 = x at hcu hdu HS3
            generalize Y.getD (k - i) 0 = y at hcv hdv HS3
            have hxy : x * y ≤ 65025 := Nat.mul_le_mul (show x ≤ 255 by omega) (show y ≤ 255 by omega)
            have HXY : Hid (((x * y : Nat) : Int) = (x : Int) * (y : Int)) := Int.natCast_mul x y
            have hxy' : (x : Int) * (y : Int) ≤ 65025 := by rw [← HXY.out]; omega
            have hxy0 : 0 ≤ (x : Int) * (y : Int) := Int.mul_nonneg (by omega) (by omega)
            subst e1
            subst e2
            have hii : (i : Int) < (la : Int) := by omega
            have hki : (k : Int) - (i : Int) < (lb : Int) := by omega
            have hki0 : 0 ≤ (k : Int) - (i : Int) := by omega
            go_upto_region 9 with fail
            go_quiet (fail)
            go_wp2
            go_roundw
            case rel =>
              have hm := HXY.out
              exact ⟨i + 1, s + x * y, by omega, by omega, by omega, by go_num, by rw [show ((s : Int) + (x : Int) * y) = ((s + x * y : Nat) : Int) by omega], by omega, HS3.out, hsame.trans (Same.drewN _ _)⟩
            case measure => simp [intOf]; omega
          · have HE : Hid (s = c + D.ps X Y k (k + 1)) := by
              show _ = _
              by_cases e : i = k + 1
              · rw [← e]; exact HS2.out
              · rw [D.ps_end X Y k i (k + 1) (by omega) hi3]; exact HS2.out
            have owr := hsame.own ownr
            have hcell3 := owr.cell k (by omega)
            have hfr := owr.free k
            have HC : Hid (D.val ((L.set k (s % 256)).take (k + 1)) + (s / 256) * 256 ^ (k + 1) = D.pr X Y (k + 1)) := D.col_step (by omega) HI.out HE.out
            have hsb : s ≤ 65280 * la := by omega
            by_cases hil : i < la
            · have hik : ¬ i ≤ k := fun h => hin ⟨hil, h⟩
              clear hin
              go_wp2
              go_roundw
              case rel => exact ⟨k + 1, s / 256, _, by omega, by go_num, by go_num, by omega, owr.setI (k := k) (by omega) (s % 256) (by omega), (onlyr.trans (hsame.only g)).setCell _ _, by simpa using hL, hdL.set _ (by omega), HC.out⟩
              case measure => simp [intOf]; omega
            · clear hin
              go_wp2
              go_roundw
              case rel => exact ⟨k + 1, s / 256, _, by omega, by go_num, by go_num, by omega, owr.setI (k := k) (by omega) (s % 256) (by omega), (onlyr.trans (hsame.only g)).setCell _ _, by simpa using hL, hdL.set _ (by omega), HC.out⟩
              case measure => simp [intOf]; omega
    · have hkU : k = la + lb := by omega
      subst hkU
      have hrd := ownr.rd hdL
      rw [hL] at hrd
      have HT : Hid (D.val (D.trimL L) = D.val X * D.val Y) := by
        show _ = _
        have h1 := HI.out
        rw [D.take_all (show L.length ≤ la + lb by omega), D.pr_all X Y (la + lb) (by omega)] at h1
        have h2 := D.val_lt hx.dig
        have h3 := D.val_lt hy.dig
        have h4 : D.val X * D.val Y < 256 ^ (la + lb) := by
          rw [Nat.pow_add, ← hxl, ← hyl]
          exact Nat.mul_lt_mul'' h2 h3
        have h5 : c = 0 := D.carry_zero h1 h4
        rw [h5] at h1
        rw [D.trimL_val]
        omega
      have hrt := hrd.trim
      go_wp2_with (go_at_call 39; refine (lowDigits_any _ _ _ _ L hrd (Nat.le_refl _) (by omega)).mono ?_; rintro e w3 ⟨rfl, hw⟩; subst hw)
      go_ret
      exact ⟨_, _, rfl, hrt, D.trimL_nm _, HT.out, b2.trans (onlyr.below hg)⟩
end Go.Proofs.Ygcsaf
