import Derived.Test.YgcsafNorm
import Derived.Test.YgcsafDigits2
namespace Go.Proofs.Ygcsaf
open Go.RowKit
set_option linter.unusedVariables false
set_option linter.unusedSimpArgs false

set_option maxHeartbeats 400000 in
theorem lowDigits_any (w : World) (a : Option Addr) (len cap : Nat) (l : List Nat) (h : Rd w a len l) (hc : len ≤ cap) (hm : cap ≤ 9223372036854775807) :
    Calls Safg.prog 39 #[.slice a len cap] w fun e w' => e = .returned (.slice a (D.trimL l).length (D.trimL l).length) ∧ w' = w := by
  have hl := h.length
  go_enter Safg.func39, Safg.ntmps39
  go_wp2
  go_loop [3, 8] (fun nv i => ∃ (n k : Nat), n ≤ k ∧ k ≤ len ∧ i = .int .i64 k ∧ nv = .int .i64 n ∧ (∀ j, n ≤ j → j < k → l.getD j 0 = 0) ∧ (n = 0 ∨ l.getD (n - 1) 0 ≠ 0)) (fun _ i => len - (intOf i).toNat)
  case atStart => exact ⟨0, 0, by omega, by omega, rfl, rfl, fun j h1 h2 => absurd h2 (by omega), .inl rfl⟩
  case round =>
    obtain ⟨n, k, hnk, hk, rfl, rfl, hz, ht⟩ := hrel
    have HZ : Hid (∀ j, n ≤ j → j < k → l.getD j 0 = 0) := hz
    have HT : Hid (n = 0 ∨ l.getD (n - 1) 0 ≠ 0) := ht
    clear hz ht
    by_cases hlt : k < len
    · obtain ⟨b, off, rfl, hb, hcell⟩ := h.cell k hlt
      by_cases hd : l.getD k 0 = 0
      · rw [hd] at hcell
        go_wp2
        go_round
        case rel =>
          refine ⟨n, k + 1, by omega, by omega, by go_num, rfl, fun j h1 h2 => ?_, HT.out⟩
          by_cases hj : j = k
          · rw [hj]; exact hd
          · exact HZ.out j h1 (by omega)
        case measure => simp [intOf]; omega
      · have HD : Hid (l.getD k 0 ≠ 0) := hd
        generalize l.getD k 0 = x at hcell hd
        have hd' : (((x : Nat) : Int) == 0) = false := by simpa using hd
        go_wp2
        go_round
        case rel => exact ⟨k + 1, k + 1, by omega, by omega, by go_num, by go_num, fun j h1 h2 => absurd h2 (by omega), .inr HD.out⟩
        case measure => simp [intOf]; omega
    · have HE : Hid ((D.trimL l).length = n) := D.trimL_of (by omega) (fun j h1 h2 => HZ.out j h1 (by omega)) HT.out
      go_wp2
      go_ret
      exact ⟨ret_slice HE.out.symm HE.out.symm, rfl⟩

theorem quo_u16 (s : Nat) (hs : s < 65536) : IntKind.u16.wrap ((s : Int).tdiv 256) = ((s / 256 : Nat) : Int) := by
  rw [Int.tdiv_eq_ediv_of_nonneg (by omega), IntKind.wrap_u16]
  omega

set_option maxHeartbeats 400000 in
theorem successor_any (w : World) (a : Option Addr) (len cap : Nat) (A : List Nat) (h : Rd w a len A) (hc : len ≤ cap) (hm : cap ≤ 281474976710655) :
    Calls Safg.prog 33 #[.slice a len cap] w fun e w' => ∃ a' l, e = .returned (.slice a' l.length l.length) ∧ Rd w' a' l.length l ∧ D.Nm l ∧ D.val l = D.val A + 1 ∧ l.length ≤ len + 1 ∧ Below w.heap.size w w' := by
  have hl := h.length
  go_enter Safg.func33, Safg.ntmps33
  go_upto_region 4 with (refine wpList_make_bytes _ rfl _ _ 30 rfl Safg.underlying30 .i64 .i64 _ _ (len + 1) rfl rfl (by omega) (by omega) (by omega) ?_; intro w2 g hg o2 b2)
  go_loopw [4, 12] (fun cv i wr => ∃ (k c : Nat) (L : List Nat), k ≤ len + 1 ∧ i = .int .i64 k ∧ cv = .int .u16 (c : Int) ∧ c ≤ 1 ∧ Own wr g L ∧ Only g w2 wr ∧ L.length = len + 1 ∧ D.Dig L ∧ D.val (L.take k) + c * 256 ^ k = D.val (A.take k) + 1) (fun _ i _ => len + 1 - (intOf i).toNat)
  case atStart => exact ⟨0, 1, _, Nat.zero_le _, rfl, rfl, by omega, o2, Only.refl _ _, by simp, D.Dig.replicate _, by simp [D.val]⟩
  case round =>
    obtain ⟨k, c, L, hk, rfl, rfl, hc1, ownr, onlyr, hL, hdL, hinv⟩ := hrel
    have HI : Hid (D.val (L.take k) + c * 256 ^ k = D.val (A.take k) + 1) := hinv
    clear hinv
    by_cases hkn : k < len + 1
    · have hcell3 := ownr.cell k (by omega)
      have hfr := ownr.free k
      have HS : Hid (∀ s, s = c + A.getD k 0 → D.val ((L.set k (s % 256)).take (k + 1)) + (s / 256) * 256 ^ (k + 1) = D.val (A.take (k + 1)) + 1) := by
        intro s hs
        rw [D.val_take_set (by omega), D.val_take_succ A, Nat.pow_succ]
        have h1 := D.carry_step s (256 ^ k)
        have h2 : s * 256 ^ k = c * 256 ^ k + A.getD k 0 * 256 ^ k := by rw [hs, Nat.add_mul]
        have h3 := HI.out
        omega
      by_cases hkv : k < len
      · obtain ⟨b, off, e1, hbl1, hcell⟩ := h.cell k hkv
        have hcu : wr.cell? ⟨b, off + k, none⟩ = some (.int .u8 ((A.getD k 0 : Nat) : Int)) := by rw [onlyr.cell (p := ⟨b, off + k, none⟩) (show b ≠ g by omega), b2.cell (p := ⟨b, off + k, none⟩) hbl1]; exact hcell
        have hdu := h.dig.getD k
        clear hcell
        generalize A.getD k 0 = x at hcu hdu HS
        have hset := ownr.setI (k := k) (by omega) ((c + x) % 256) (i := ((c : Int) + x) % 256) (by omega)
        subst e1
        go_wp2
        go_roundw
        case rel => exact ⟨k + 1, (c + x) / 256, _, by omega, by go_num, by rw [show ((c : Int) + x) = ((c + x : Nat) : Int) by omega, quo_u16 _ (by omega)], by omega, hset, onlyr.setCell _ _, by simpa using hL, hdL.set _ (by omega), HS.out _ rfl⟩
        case measure => simp [intOf]; omega
      · have hv0 : A.getD k 0 = 0 := by simp [List.getElem?_eq_none (show A.length ≤ k by omega)]
        rw [hv0] at HS
        clear hv0
        have hset := ownr.setI (k := k) (by omega) ((c + 0) % 256) (i := (c : Int) % 256) (by omega)
        go_wp2
        go_roundw
        case rel => exact ⟨k + 1, (c + 0) / 256, _, by omega, by go_num, by go_num, by omega, hset, onlyr.setCell _ _, by simpa using hL, hdL.set _ (by omega), HS.out _ rfl⟩
        case measure => simp [intOf]; omega
    · have hkU : k = len + 1 := by omega
      subst hkU
      have hrd := ownr.rd hdL
      rw [hL] at hrd
      have HT : Hid (D.val (D.trimL L) = D.val A + 1) := by
        show _ = _
        have h1 := HI.out
        rw [D.take_all (show L.length ≤ len + 1 by omega), D.take_all (show A.length ≤ len + 1 by omega)] at h1
        have h2 := D.val_lt h.dig
        rw [hl] at h2
        have h3 : c * 256 ^ (len + 1) = 0 := by
          rcases Nat.eq_zero_or_pos c with h | h
          · rw [h]; simp
          · exfalso
            have : 256 ^ (len + 1) ≤ c * 256 ^ (len + 1) := Nat.le_mul_of_pos_left _ h
            rw [Nat.pow_succ] at this h1
            omega
        rw [D.trimL_val]
        omega
      have htl := D.trimL_len L
      have hrt := hrd.trim
      go_wp2_with (go_at_call 39; refine (lowDigits_any _ _ _ _ L hrd (Nat.le_refl _) (by omega)).mono ?_; rintro e w3 ⟨rfl, hw⟩; subst hw)
      go_ret
      exact ⟨_, _, rfl, hrt, D.trimL_nm _, HT.out, by omega, b2.trans (onlyr.below hg)⟩
end Go.Proofs.Ygcsaf
