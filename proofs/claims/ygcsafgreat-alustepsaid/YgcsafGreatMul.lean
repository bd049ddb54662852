import Derived.Test.YgcsafGreatAdd
import Derived.Test.YgcsafGreatDigits2
namespace Go.Proofs.YgcsafGreat
open Go.RowKit
set_option linter.unusedVariables false
set_option linter.unusedSimpArgs false

set_option maxHeartbeats 1000000 in
theorem mul_any (w : World) (xa ya : Option Addr) (la ca lb cb : Nat) (A B : List Nat) (ha : Rd w xa la A) (hb : Rd w ya lb B) (hla : la ≤ ca) (hlb : lb ≤ cb) (hca : ca ≤ 9223372036854775807) (hcb : cb ≤ 9223372036854775807) (hsum : la + lb ≤ 281474976710656) :
    Calls Safg.prog 99 #[.slice xa la ca, .slice ya lb cb] w fun e w' => ∃ a' l, e = .returned (.slice a' l.length l.length) ∧ Made w.heap.size w' a' l ∧ D.val l = D.val A * D.val B ∧ l.length ≤ la + lb ∧ Below w.heap.size w w' := by
  have hal := ha.length
  have hbl := hb.length
  have htA := D.trimL_len A
  have htB := D.trimL_len B
  have hrX := ha.trim
  have hrY := hb.trim
  have HV : Hid (D.val (D.trimL A) * D.val (D.trimL B) = D.val A * D.val B) := by show _ = _; rw [D.trimL_val, D.trimL_val]
  go_enter Safg.func99, Safg.ntmps99
  go_upto_region 2 with (go_at_call 96; refine (trim_any _ _ _ _ A ha hla (by omega)).mono ?_; rintro e w' ⟨rfl, hw⟩; subst hw)
  go_upto_region 3 with (go_at_call 96; refine (trim_any _ _ _ _ B hb hlb (by omega)).mono ?_; rintro e w1 ⟨rfl, hw⟩; subst hw)
  generalize D.trimL A = X at *
  generalize D.trimL B = Y at *
  go_upto_region 5 with (refine wpList_make_bytes _ rfl _ _ 98 rfl Safg.underlying98 .i64 .i64 _ _ (X.length + Y.length) rfl rfl (by omega) (by omega) (by omega) ?_; intro w2 g hg o2 b2)
  go_loopw [23] (fun i wr => ∃ (k : Nat) (L : List Nat), k ≤ X.length ∧ i = .int .i64 k ∧ Own wr g L ∧ Only g w2 wr ∧ L.length = X.length + Y.length ∧ D.Dig L ∧ D.val L = D.val (X.take k) * D.val Y ∧ ∀ p, k + Y.length ≤ p → L.getD p 0 = 0) (fun i _ => X.length - (intOf i).toNat)
  case atStart => exact ⟨0, _, Nat.zero_le _, rfl, o2, Only.refl _ _, by simp, D.Dig.replicate _, by rw [D.val_replicate]; simp [D.val], fun p _ => D.getD_replicate _ _⟩
  case round =>
    obtain ⟨k, L0, hk, rfl, own0, only0, hL0, hdL0, hinv, hz⟩ := hrel
    have HI : Hid (D.val L0 = D.val (X.take k) * D.val Y) := hinv
    have HZ : Hid (∀ p, k + Y.length ≤ p → L0.getD p 0 = 0) := hz
    clear hinv hz
    obtain ⟨wo, hwo⟩ : ∃ wo : World, wo = wr := ⟨_, rfl⟩
    subst hwo
    by_cases hkn : k < X.length
    · obtain ⟨b, off, e1, hbl1, hcell⟩ := hrX.cell k hkn
      have hcu : wo.cell? ⟨b, off + k, none⟩ = some (.int .u8 ((X.getD k 0 : Nat) : Int)) := by rw [only0.cell (p := ⟨b, off + k, none⟩) (show b ≠ g by omega), b2.cell (p := ⟨b, off + k, none⟩) hbl1]; exact hcell
      have hdu := hrX.dig.getD k
      clear hcell
      generalize hx : X.getD k 0 = x at hcu hdu
      have HX : Hid (x = X.getD k 0) := hx.symm
      clear hx
      subst e1
      go_upto_region 9 with fail
      go_loopw [8, 30] (fun cv i wr => ∃ (j c : Nat) (L : List Nat), j ≤ Y.length ∧ i = .int .i64 j ∧ cv = .int .u32 (c : Int) ∧ c ≤ 255 ∧ Own wr g L ∧ Only g wo wr ∧ L.length = X.length + Y.length ∧ D.Dig L ∧ D.val L + c * 256 ^ (k + j) = D.val L0 + x * 256 ^ k * D.val (Y.take j) ∧ ∀ p, k + j ≤ p → L.getD p 0 = L0.getD p 0) (fun _ i _ => Y.length - (intOf i).toNat)
      case atStart => exact ⟨0, 0, L0, Nat.zero_le _, rfl, rfl, by omega, own0, Only.refl _ _, hL0, hdL0, by simp [D.val], fun p _ => rfl⟩
      case round =>
        obtain ⟨j, c, L, hj, rfl, rfl, hc1, ownr, onlyr, hL, hdL, hinv, hz⟩ := hrel
        have HI2 : Hid (D.val L + c * 256 ^ (k + j) = D.val L0 + x * 256 ^ k * D.val (Y.take j)) := hinv
        have HZ2 : Hid (∀ p, k + j ≤ p → L.getD p 0 = L0.getD p 0) := hz
        clear hinv hz
        by_cases hjn : j < Y.length
        · obtain ⟨b', off', e2, hbl2, hcell'⟩ := hrY.cell j hjn
          have hcv : wr.cell? ⟨b', off' + j, none⟩ = some (.int .u8 ((Y.getD j 0 : Nat) : Int)) := by rw [onlyr.cell (p := ⟨b', off' + j, none⟩) (show b' ≠ g by omega), only0.cell (p := ⟨b', off' + j, none⟩) (show b' ≠ g by omega), b2.cell (p := ⟨b', off' + j, none⟩) hbl2]; exact hcell'
          have hdv := hrY.dig.getD j
          have hdl := hdL.getD (k + j)
          have hcell3 := ownr.cell (k + j) (by omega)
          have hfr := ownr.free (k + j)
          have HS : Hid (∀ s, s = c + (x * Y.getD j 0 + L.getD (k + j) 0) → D.val (L.set (k + j) (s % 256)) + (s / 256) * 256 ^ (k + (j + 1)) = D.val L0 + x * 256 ^ k * D.val (Y.take (j + 1))) := fun s hs => D.mul_step (by omega) HI2.out hs
          clear hcell'
          generalize Y.getD j 0 = y at hcv hdv HS
          generalize L.getD (k + j) 0 = z at hcell3 hdl HS
          have hxy : x * y ≤ 65025 := Nat.mul_le_mul (show x ≤ 255 by omega) (show y ≤ 255 by omega)
          have hxy' : (x : Int) * (y : Int) ≤ 65025 := by have : ((x * y : Nat) : Int) ≤ 65025 := by omega
                                                          rwa [Int.natCast_mul] at this
          have hxy0 : 0 ≤ (x : Int) * (y : Int) := Int.mul_nonneg (by omega) (by omega)
          have HXY : Hid (((x * y : Nat) : Int) = (x : Int) * (y : Int)) := Int.natCast_mul x y
          subst e2
          go_wp2
          go_roundw
          case rel =>
            have hm := HXY.out
            refine ⟨j + 1, (c + (x * y + z)) / 256, _, by omega, by go_num, ?_, by omega, ownr.setI (k := k + j) (by omega) ((c + (x * y + z)) % 256) ?_, onlyr.setCell _ _, by simpa using hL, hdL.set _ (by omega), HS.out _ rfl, fun p hp => ?_⟩
            · rw [show ((c : Int) + ((x : Int) * y + z)) / 256 = (((c + (x * y + z)) / 256 : Nat) : Int) by omega]
            · omega
            · rw [D.getD_set (by omega), if_neg (by omega)]; exact HZ2.out p (by omega)
          case measure => simp [intOf]; omega
        · have hjY : j = Y.length := by omega
          subst hjY
          have hcell3 := ownr.cell (k + Y.length) (by omega)
          have hfr := ownr.free (k + Y.length)
          have hset := ownr.setI (k := k + Y.length) (by omega) c (i := (c : Int)) rfl
          have HF : Hid (D.val (L.set (k + Y.length) c) = D.val (X.take (k + 1)) * D.val Y) := D.mul_last HX.out (by omega) (by rw [HZ2.out _ (Nat.le_refl _)]; exact HZ.out _ (Nat.le_refl _)) HI2.out HI.out
          go_wp2
          go_roundw
          case rel =>
            refine ⟨k + 1, _, by omega, by go_num, hset, (only0.trans onlyr).setCell _ _, by simpa using hL, hdL.set _ (by omega), HF.out, fun p hp => ?_⟩
            rw [D.getD_set (by omega), if_neg (by omega), HZ2.out p (by omega)]
            exact HZ.out p (by omega)
          case measure => simp [intOf]; omega
    · have hkX : k = X.length := by omega
      subst hkX
      have HT : Hid (D.val (D.trimL L0) = D.val A * D.val B) := by show _ = _; rw [D.trimL_val, HI.out, D.take_all (Nat.le_refl _)]; exact HV.out
      have htl := D.trimL_len L0
      go_wp2_with (go_at_call 257; refine (clip_any _ g (X.length + Y.length) w1.heap.size _ own0 hdL0 hL0 hg (by omega)).mono ?_; rintro e w3 ⟨a', rfl, hm, hw⟩; subst hw)
      go_ret
      exact ⟨a', _, rfl, hm, HT.out, by omega, b2.trans (only0.below hg)⟩
end Go.Proofs.YgcsafGreat
