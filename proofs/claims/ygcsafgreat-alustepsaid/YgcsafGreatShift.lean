/-
  'u256.ShiftUp' (372), 'u256.ShiftDown' (374).
-/
import Derived.Test.YgcsafGreatRound
namespace Go.Proofs.YgcsafGreat
open Go.RowKit
set_option linter.unusedVariables false
set_option linter.unusedSimpArgs false

/-- One limb, shifted up. -/
theorem up_limb {l c s : Nat} (hl : l < 18446744073709551616) (hs : s < 64) (hc : c < 2 ^ s) :
    bits .or .u64 ((l * 2 ^ s % 18446744073709551616 : Nat) : Int) ((c : Nat) : Int) = ((l * 2 ^ s % 18446744073709551616 + c : Nat) : Int) ∧ l * 2 ^ s % 18446744073709551616 + c < 18446744073709551616 ∧ l / 2 ^ (64 - s) < 2 ^ s ∧ l * 2 ^ s % 18446744073709551616 + c + b64 * (l / 2 ^ (64 - s)) = l * 2 ^ s + c := by
  have pos : 0 < 2 ^ s := Nat.pow_pos (by omega)
  have pq : 2 ^ (64 - s) * 2 ^ s = 18446744073709551616 := by rw [← Nat.pow_add, show 64 - s + s = 64 by omega]
  have posq : 0 < 2 ^ (64 - s) := Nat.pow_pos (by omega)
  have hhi : l / 2 ^ (64 - s) < 2 ^ s := by rw [Nat.div_lt_iff_lt_mul posq, Nat.mul_comm, pq]; exact hl
  have hd := Nat.div_add_mod l (2 ^ (64 - s))
  have h1 : l * 2 ^ s = (l / 2 ^ (64 - s)) * 18446744073709551616 + l % 2 ^ (64 - s) * 2 ^ s := by
    conv => lhs; rw [← hd]
    rw [Nat.add_mul, Nat.mul_comm (2 ^ (64 - s)), Nat.mul_assoc, pq]
  have hm := Nat.mod_lt l posq
  have h2 : (l % 2 ^ (64 - s) + 1) * 2 ^ s ≤ 18446744073709551616 := by rw [← pq]; exact Nat.mul_le_mul_right _ hm
  rw [Nat.add_mul, Nat.one_mul] at h2
  have h3 : l * 2 ^ s % 18446744073709551616 = l % 2 ^ (64 - s) * 2 ^ s := by
    rw [h1, Nat.add_comm, Nat.add_mul_mod_self_right, Nat.mod_eq_of_lt (by omega)]
  refine ⟨?_, ?_, hhi, ?_⟩
  · rw [h3]
    have h := u64_or_nat (l % 2 ^ (64 - s) * 2 ^ s) c (by omega) (by omega)
    have e : 2 ^ s * (l % 2 ^ (64 - s)) + c = 2 ^ s * (l % 2 ^ (64 - s)) ||| c := Nat.two_pow_add_eq_or_of_lt hc _
    rw [Nat.mul_comm] at e
    rw [h, ← e]
  · rw [h3]; omega
  · rw [h3, b64_eq, Nat.mul_comm 18446744073709551616]
    omega

/-- One limb, shifted down. -/
theorem down_limb {l r s : Nat} (hl : l < 18446744073709551616) (hs : s < 64) (hr : r < 2 ^ s) :
    bits .or .u64 ((l / 2 ^ s : Nat) : Int) ((r * 2 ^ (64 - s) : Nat) : Int) = ((l / 2 ^ s + r * 2 ^ (64 - s) : Nat) : Int) ∧ l / 2 ^ s + r * 2 ^ (64 - s) < 18446744073709551616 ∧ l * 2 ^ (64 - s) % 18446744073709551616 = l % 2 ^ s * 2 ^ (64 - s) ∧ (l / 2 ^ s + r * 2 ^ (64 - s)) * 2 ^ s + l % 2 ^ s = l + b64 * r := by
  have pos : 0 < 2 ^ s := Nat.pow_pos (by omega)
  have pq : 2 ^ (64 - s) * 2 ^ s = 18446744073709551616 := by rw [← Nat.pow_add, show 64 - s + s = 64 by omega]
  have posq : 0 < 2 ^ (64 - s) := Nat.pow_pos (by omega)
  have hlo : l / 2 ^ s < 2 ^ (64 - s) := by rw [Nat.div_lt_iff_lt_mul pos, pq]; exact hl
  have hle : (r + 1) * 2 ^ (64 - s) ≤ 2 ^ s * 2 ^ (64 - s) := Nat.mul_le_mul_right _ hr
  rw [Nat.mul_comm (2 ^ s), pq, Nat.add_mul, Nat.one_mul] at hle
  have hd := Nat.div_add_mod l (2 ^ s)
  have hm := Nat.mod_lt l pos
  refine ⟨?_, by omega, ?_, ?_⟩
  · have h := u64_or_nat (l / 2 ^ s) (r * 2 ^ (64 - s)) (by omega) (by omega)
    have e : 2 ^ (64 - s) * r + l / 2 ^ s = 2 ^ (64 - s) * r ||| l / 2 ^ s := Nat.two_pow_add_eq_or_of_lt hlo _
    rw [Nat.mul_comm, Nat.or_comm] at e
    rw [h, ← e, Nat.add_comm]
  · have h1 : l * 2 ^ (64 - s) = (l / 2 ^ s) * 18446744073709551616 + l % 2 ^ s * 2 ^ (64 - s) := by
      conv => lhs; rw [← hd]
      rw [Nat.add_mul, Nat.mul_comm (2 ^ s), Nat.mul_assoc, Nat.mul_comm (2 ^ s), pq]
    have h2 : (l % 2 ^ s + 1) * 2 ^ (64 - s) ≤ 2 ^ s * 2 ^ (64 - s) := Nat.mul_le_mul_right _ hm
    rw [Nat.mul_comm (2 ^ s), pq, Nat.add_mul, Nat.one_mul] at h2
    rw [h1, Nat.add_comm, Nat.add_mul_mod_self_right, Nat.mod_eq_of_lt (by omega)]
  · rw [Nat.add_mul, Nat.mul_assoc, pq, b64_eq, Nat.mul_comm 18446744073709551616, Nat.mul_comm (l / 2 ^ s)]
    omega

theorem up_step {WL WK P c l s d c' : Nat} (I : WK + P * c = WL * s) (E : d + b64 * c' = l * s + c) : WK + P * d + P * b64 * c' = (WL + P * l) * s := by
  have f : P * (d + b64 * c') = P * (l * s + c) := by rw [E]
  simp only [Nat.mul_add, Nat.add_mul, Nat.mul_assoc] at f I ⊢
  omega

set_option maxRecDepth 100000 in
set_option maxHeartbeats 2000000 in
theorem shiftUp_any (w : World) (g n cu s : Nat) (L : List Nat) (hU : OwnU w g L) (lU : Lim L) (hn : n ≤ L.length) (hs : s < 64) (hN : n < 4294967296) :
    Calls Safg.prog 372 #[.slice (some ⟨g, 0, none⟩) n cu, .int .u8 (s : Int)] w fun e w' => ∃ (L' : List Nat) (c : Nat), e = .returned (.tuple #[]) ∧ OwnU w' g L' ∧ Only g w w' ∧ Lim L' ∧ Within L L' 0 n ∧ c < 2 ^ s ∧ wv L' 0 n + b64 ^ n * c = wv L 0 n * 2 ^ s := by
  have ts : decide ((64 : Int) ≤ (s : Int)) = false := decide_eq_false (by omega)
  go_enter Safg.func372, Safg.ntmps372
  go_upto_region 3 with fail
  go_loopw [4, 11] (fun cr i wr => ∃ (k c : Nat) (K : List Nat), k ≤ n ∧ i = .int .i64 k ∧ cr = .int .u64 (c : Int) ∧ OwnU wr g K ∧ Only g w wr ∧ Lim K ∧ Within L K 0 k ∧ c < 2 ^ s ∧ wv K 0 k + b64 ^ k * c = wv L 0 k * 2 ^ s) (fun _ i _ => n - (intOf i).toNat)
  case atStart => exact ⟨0, 0, L, Nat.zero_le _, rfl, rfl, hU, Only.refl _ _, lU, Within.refl _ _ _, Nat.pow_pos (by omega), by simp [wv]⟩
  case round =>
    obtain ⟨k, c, K, hk, rfl, rfl, own, only, lK, hw, hc, I⟩ := hrel
    have HI : Hid (wv K 0 k + b64 ^ k * c = wv L 0 k * 2 ^ s) := I
    have HC : Hid (c < 2 ^ s) := hc
    have HW : Hid (Within L K 0 k) := hw
    have hLl := hw.1
    clear I hw hc
    by_cases hkn : k < n
    · have c2 := own.cell k (by omega)
      rw [HW.out.2 k (by omega)] at c2
      have l2 := lU.getD k
      have fr := own.free k
      have HS : Hid (∀ d c', d + b64 * c' = L.getD k 0 * 2 ^ s + c → wv (K.set k d) 0 (k + 1) + b64 ^ (k + 1) * c' = wv L 0 (k + 1) * 2 ^ s) := by
        intro d c' e
        have := wv_set_succ (U := K) (o := 0) (m := k) (by omega) d
        rw [Nat.zero_add] at this
        rw [this, wv_succ L, Nat.zero_add, Nat.pow_succ]
        exact up_step HI.out e
      have HW2 : Hid (∀ d, Within L (K.set k d) 0 (k + 1)) := fun d => by
        have := HW.out.set (by omega) d
        rwa [Nat.zero_add] at this
      generalize L.getD k 0 = l at *
      obtain ⟨e1, e2, e3, e4⟩ := up_limb l2 hs HC.out
      obtain ⟨d, HD⟩ : ∃ d, Hid (l * 2 ^ s % 18446744073709551616 + c = d) := ⟨_, rfl⟩
      obtain ⟨c', HC'⟩ : ∃ d, Hid (l / 2 ^ (64 - s) = d) := ⟨_, rfl⟩
      have E1 : Hid (bits .or .u64 (IntKind.u64.wrap ((l : Int) * 2 ^ s)) (c : Int) = (d : Int)) := by show _ = _; rw [wrap_shl, e1, HD.out]
      have E2 : Hid (((l : Int) / 2 ^ (64 - s)) = (c' : Int)) := by show _ = _; rw [cast_shr, HC'.out]
      rw [HD.out] at e2 e4
      rw [HC'.out] at e3 e4
      have E4 : Hid (d + b64 * c' = l * 2 ^ s + c) := e4
      have E3 : Hid (c' < 2 ^ s) := e3
      clear e1 e3 e4
      go_upto_region 6 with fail
      rw [E1.out]
      go_upto_region 7 with fail
      rw [E2.out]
      go_wp2
      go_roundw
      case rel =>
        exact ⟨k + 1, c', K.set k d, by omega, by go_num, rfl, own.set (by omega) d, only.setCell _ _, lK.set _ e2, HW2.out d, E3.out, HS.out d c' E4.out⟩
      case measure => simp [intOf]; omega
    · have hkU : k = n := by omega
      subst hkU
      go_wp2
      go_end0
      exact ⟨K, c, rfl, own, only, lK, HW.out, HC.out, HI.out⟩

/-- The low limb comes off. -/
theorem wv_at (U : List Nat) {k n : Nat} (h : k < n) : wv U k (n - k) = U.getD k 0 + b64 * wv U (k + 1) (n - (k + 1)) := by
  rw [show n - k = (n - (k + 1)) + 1 by omega, wv_low]
theorem wv_keep {K L : List Nat} {k n : Nat} (h : ∀ j, k ≤ j → j < n → K.getD j 0 = L.getD j 0) : wv K k (n - k) = wv L k (n - k) :=
  wv_congr fun j hj => h (k + j) (by omega) (by omega)

theorem down_step {HL HK l s d r r' : Nat} (I : HL = HK * s + r) (E : d * s + r' = l + b64 * r) : l + b64 * HL = (d + b64 * HK) * s + r' := by
  rw [I, Nat.add_mul, Nat.mul_add, Nat.mul_assoc]
  omega

/-- From place k up the limbs have been turned; below they are as they were. -/
def Above (L K : List Nat) (k n : Nat) : Prop := K.length = L.length ∧ ∀ j, j < k ∨ n ≤ j → K.getD j 0 = L.getD j 0
theorem Above.set {L K : List Nat} {k n : Nat} (h : Above L K (k + 1) n) (hk : k < n) (hn : n ≤ L.length) (d : Nat) : Above L (K.set k d) k n :=
  ⟨by rw [List.length_set]; exact h.1, fun j hj => by rw [getD_setU (by rw [h.1]; omega), if_neg (by omega)]; exact h.2 j (by omega)⟩

set_option maxRecDepth 100000 in
set_option maxHeartbeats 2000000 in
theorem shiftDown_any (w : World) (g n cu s : Nat) (L : List Nat) (hU : OwnU w g L) (lU : Lim L) (hn : n ≤ L.length) (hs : s < 64) (hN : n < 4294967296) :
    Calls Safg.prog 374 #[.slice (some ⟨g, 0, none⟩) n cu, .int .u8 (s : Int)] w fun e w' => ∃ (L' : List Nat), e = .returned (.tuple #[]) ∧ OwnU w' g L' ∧ Only g w w' ∧ Lim L' ∧ Above L L' 0 n ∧ wv L' 0 n = wv L 0 n / 2 ^ s := by
  have ts : decide ((64 : Int) ≤ (s : Int)) = false := decide_eq_false (by omega)
  go_enter Safg.func374, Safg.ntmps374
  go_upto_region 3 with fail
  go_loopw [4, 5] (fun cr i wr => ∃ (k c r : Nat) (K : List Nat), k ≤ n ∧ i = .int .i64 k ∧ cr = .int .u64 (c : Int) ∧ c = r * 2 ^ (64 - s) ∧ OwnU wr g K ∧ Only g w wr ∧ Lim K ∧ Above L K k n ∧ r < 2 ^ s ∧ wv L k (n - k) = wv K k (n - k) * 2 ^ s + r) (fun _ i _ => (intOf i).toNat)
  case atStart => exact ⟨n, 0, 0, L, Nat.le_refl _, rfl, rfl, by simp, hU, Only.refl _ _, lU, ⟨rfl, fun _ _ => rfl⟩, Nat.pow_pos (by omega), by simp [wv]⟩
  case round =>
    obtain ⟨k, c, r, K, hk, rfl, rfl, hcr, own, only, lK, hw, hc, I⟩ := hrel
    have HI : Hid (wv L k (n - k) = wv K k (n - k) * 2 ^ s + r) := I
    have HC : Hid (r < 2 ^ s) := hc
    have HCR : Hid (c = r * 2 ^ (64 - s)) := hcr
    have HW : Hid (Above L K k n) := hw
    have hLl := hw.1
    clear I hw hc hcr
    by_cases hk0 : k = 0
    · subst hk0
      have HF : Hid (wv K 0 n = wv L 0 n / 2 ^ s) := by
        have := HI.out
        rw [Nat.sub_zero] at this
        show _ = _
        rw [this, Nat.add_comm, Nat.add_mul_div_right _ _ (Nat.pow_pos (by omega)), Nat.div_eq_of_lt HC.out, Nat.zero_add]
      go_wp2
      go_end0
      exact ⟨K, rfl, own, only, lK, HW.out, HF.out⟩
    · obtain ⟨k, rfl⟩ : ∃ j, k = j + 1 := ⟨k - 1, by omega⟩
      have c2 := own.cell k (by omega)
      rw [HW.out.2 k (by omega)] at c2
      have l2 := lU.getD k
      have fr := own.free k
      have HS : Hid (∀ d r', d * 2 ^ s + r' = L.getD k 0 + b64 * r → wv L k (n - k) = wv (K.set k d) k (n - k) * 2 ^ s + r') := by
        intro d r' e
        rw [wv_at L (by omega), wv_at (K.set k d) (by omega), getD_setU (by omega), if_pos rfl]
        rw [wv_keep (K := K.set k d) (L := K) (fun j h1 h2 => by rw [getD_setU (by omega), if_neg (by omega)])]
        exact down_step HI.out e
      have HW2 : Hid (∀ d, Above L (K.set k d) k n) := fun d => HW.out.set (by omega) hn d
      generalize L.getD k 0 = l at *
      obtain ⟨e1, e2, e3, e4⟩ := down_limb l2 hs HC.out
      obtain ⟨d, HD⟩ : ∃ d, Hid (l / 2 ^ s + r * 2 ^ (64 - s) = d) := ⟨_, rfl⟩
      obtain ⟨c', HC'⟩ : ∃ d, Hid (l * 2 ^ (64 - s) % 18446744073709551616 = d) := ⟨_, rfl⟩
      have E1 : Hid (bits .or .u64 ((l : Int) / 2 ^ s) (c : Int) = (d : Int)) := by show _ = _; rw [HCR.out, cast_shr, e1, HD.out]
      have E2 : Hid (IntKind.u64.wrap ((l : Int) * 2 ^ (64 - s)) = (c' : Int)) := by show _ = _; rw [wrap_shl, HC'.out]
      rw [HD.out] at e2 e4
      rw [HC'.out] at e3
      have E4 : Hid (d * 2 ^ s + l % 2 ^ s = l + b64 * r) := e4
      have E3 : Hid (c' = l % 2 ^ s * 2 ^ (64 - s)) := e3
      have hki : ((k + 1 : Nat) : Int) - 1 = (k : Int) := by omega
      have hki2 : (k : Int) + 1 - 1 = (k : Int) := by omega
      have t0 : decide ((0 : Int) < (k : Int) + 1) = true := decide_eq_true (by omega)
      clear e1 e3 e4
      go_upto_region 7 with fail
      rw [E1.out]
      go_upto_region 4 with fail
      rw [E2.out]
      go_wp2
      go_roundw
      case rel =>
        exact ⟨k, c', l % 2 ^ s, K.set k d, by omega, by go_num, rfl, E3.out, own.set (by omega) d, only.setCell _ _, lK.set _ e2, HW2.out d, Nat.mod_lt _ (Nat.pow_pos (by omega)), HS.out d _ E4.out⟩
      case measure => simp [intOf]
end Go.Proofs.YgcsafGreat
