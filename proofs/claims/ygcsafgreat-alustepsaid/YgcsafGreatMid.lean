/-
  'u256.midHolds' (403), 'u256.DivMid' (407), 'u256.Round' (397), where the invariant holds.
-/
import Derived.Test.YgcsafGreatShort
namespace Go.Proofs.YgcsafGreat
open Go.RowKit
set_option linter.unusedVariables false
set_option linter.unusedSimpArgs false

theorem wv_top {U V : List Nat} {o i : Nat} (lU : Lim U) (lV : Lim V) (h : wv U (o + 1) (i + 1) < wv V 0 (i + 1)) : (U.getD (o + (i + 1)) 0 = V.getD i 0 ∧ wv U (o + 1) i < wv V 0 i) ∨ U.getD (o + (i + 1)) 0 < V.getD i 0 := by
  rw [wv_succ, wv_succ, Nat.zero_add, show o + 1 + i = o + (i + 1) by omega] at h
  rcases Nat.lt_trichotomy (U.getD (o + (i + 1)) 0) (V.getD i 0) with h1 | h1 | h1
  · exact .inr h1
  · rw [h1] at h
    exact .inl ⟨h1, by omega⟩
  · have h2 : b64 ^ i * (V.getD i 0 + 1) ≤ b64 ^ i * U.getD (o + (i + 1)) 0 := Nat.mul_le_mul_left _ h1
    rw [Nat.mul_add, Nat.mul_one] at h2
    have := wv_lt lV 0 i
    omega

set_option maxRecDepth 100000 in
set_option maxHeartbeats 4000000 in
theorem midHolds_any (w : World) (g h j n cu cv : Nat) (U V : List Nat) (hU : OwnU w g U) (hV : OwnU w h V) (lU : Lim U) (lV : Lim V) (u9 : U.length = 9) (v4 : V.length = 4) (hn : 1 ≤ n) (hn4 : n ≤ 4) (hj : j + n ≤ 8) (hm : Mid U V j n) (hz : ∀ i, j + n < i → U.getD i 0 = 0) :
    Calls Safg.prog 403 #[.slice (some ⟨g, 0, none⟩) 9 cu, .slice (some ⟨h, 0, none⟩) 4 cv, .int .u8 (n : Int), .int .u8 (j : Int)] w fun e w' => e = .returned (.bool true) ∧ Same w w' := by
  have c1 := hV.cell (n - 1) (by omega)
  have htop := hm.top
  have ltop := lV.getD (n - 1)
  have HL : Hid (wv U (j + 1) n < wv V 0 n) := hm.lt
  have HZ : Hid (∀ i, j + n < i → U.getD i 0 = 0) := hz
  clear hm hz
  generalize V.getD (n - 1) 0 = y at *
  obtain ⟨m, rfl⟩ : ∃ m, n = m + 1 := ⟨n - 1, by omega⟩
  rw [Nat.add_sub_cancel] at c1
  have hmi : ((m + 1 : Nat) : Int) - 1 = (m : Int) := by omega
  have hmi2 : (m : Int) + 1 - 1 = (m : Int) := by omega
  have t1 : (((y : Int) / 9223372036854775808) == 0) = false := by simp; omega
  go_enter Safg.func403, Safg.ntmps403
  go_upto_region 4 with fail
  go_loop [9] (fun i => ∃ k : Nat, i = .int .i64 k ∧ j + (m + 1) < k ∧ k ≤ 9) (fun i => 9 - (intOf i).toNat)
  case atStart => exact ⟨j + (m + 1) + 1, by go_num, by omega, by omega⟩
  case round =>
    obtain ⟨k, rfl, hk1, hk2⟩ := hrel
    by_cases hk : k < 9
    · have c2 := hU.cell k (by omega)
      rw [HZ.out k (by omega)] at c2
      go_wp2
      go_round
      case rel => exact ⟨k + 1, by go_num, by omega, by omega⟩
      case measure => simp [intOf]; omega
    · have hk9 : k = 9 := by omega
      subst hk9
      go_upto_region 9 with fail
      go_loopw [10] (fun i wr => ∃ k : Nat, i = .int .u8 k ∧ k ≤ m + 1 ∧ wv U (j + 1) k < wv V 0 k ∧ Same w wr) (fun i _ => (intOf i).toNat)
      case atStart => exact ⟨m + 1, by go_num, Nat.le_refl _, HL.out, Same.refl _⟩
      case round =>
        obtain ⟨k, rfl, hk3, hlt, sr⟩ := hrel
        rcases k with _ | k
        · exact absurd hlt (Nat.lt_irrefl _)
        have hcase := wv_top lU lV hlt
        clear hlt
        have c2 := (hU.same sr).cell (j + (k + 1)) (by omega)
        have c3 := (hV.same sr).cell k (by omega)
        have hki : ((k + 1 : Nat) : Int) - 1 = (k : Int) := by omega
        have hki2 : (k : Int) + 1 - 1 = (k : Int) := by omega
        have t0 : decide ((0 : Int) < (k : Int) + 1) = true := decide_eq_true (by omega)
        have b1 : (0 : Int) ≤ (j : Int) + ((k : Int) + 1) := by omega
        have b2 : (j : Int) + ((k : Int) + 1) < 9 := by omega
        have b3 : (k : Int) < 4 := by omega
        obtain ⟨x, HX⟩ : ∃ x, Hid (U.getD (j + (k + 1)) 0 = x) := ⟨_, rfl⟩
        obtain ⟨z, HV⟩ : ∃ x, Hid (V.getD k 0 = x) := ⟨_, rfl⟩
        rw [HX.out] at c2
        rw [HV.out] at c3
        rw [HX.out, HV.out] at hcase
        rcases hcase with ⟨heq, hrest⟩ | hlt2
        · have t5 : ((x : Int) != (z : Int)) = false := by simp [heq]
          have HR : Hid (wv U (j + 1) k < wv V 0 k) := hrest
          clear hrest
          go_upto_region 11 with fail
          go_quiet (fail)
          go_wp2
          go_roundw
          case rel => exact ⟨k, by go_num, by omega, HR.out, sr.trans (Same.drewN _ _)⟩
          case measure => simp [intOf]
        · have t5 : ((x : Int) != (z : Int)) = true := by simp; omega
          have t6 : decide ((x : Int) < (z : Int)) = true := decide_eq_true (by omega)
          go_upto_region 11 with fail
          go_quiet (fail)
          go_upto_region 12 with fail
          go_quiet (fail)
          go_wp2
          go_ret
          exact ⟨rfl, sr.trans ((Same.drewN _ _).trans (Same.drewN _ _))⟩
end Go.Proofs.YgcsafGreat
