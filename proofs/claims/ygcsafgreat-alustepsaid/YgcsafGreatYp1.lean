/-
  'nat.Pow2' (259), 'nat.Bit' (261), 'yp.wrapped' (97), 'yp.negated' (100), 'yp.isNegative' (104), 'yp.magnitude' (102), 'yp.withSign' (103), 'yp.signedBelow' (109), 'yp.truth' (107).
-/
import Derived.Test.YgcsafGreatDiv
import Derived.Test.YgcsafGreatWord3
namespace Go.Proofs.YgcsafGreat
open Go.RowKit
set_option linter.unusedVariables false
set_option linter.unusedSimpArgs false

theorem pow_byte (r : Nat) (hr : r < 8) : 2 ^ r < 256 := by
  have : 2 ^ r ≤ 2 ^ 7 := Nat.pow_le_pow_right (by omega) (by omega)
  omega
theorem shl_byte (r : Nat) (hr : r < 8) : (2 : Int) ^ r % 256 = ((2 ^ r : Nat) : Int) := by
  have h := pow_byte r hr
  have e : ((2 ^ r : Nat) : Int) = (2 : Int) ^ r := by simp
  rw [← e]
  generalize 2 ^ r = p at *
  omega
theorem val_one_at (m v : Nat) : D.val ((List.replicate (m + 1) 0).set m v) = v * 256 ^ m := by
  have h := D.val_set (l := List.replicate (m + 1) 0) (k := m) (v := v) (by simp)
  rw [D.getD_replicate, D.val_replicate, Nat.zero_mul, Nat.add_zero, Nat.zero_add] at h
  exact h

set_option maxRecDepth 100000 in
set_option maxHeartbeats 1000000 in
theorem pow2_any (w : World) (k : Nat) (hk : k < 65536) :
    Calls Safg.prog 259 #[.int .u16 (k : Int)] w fun e w' => ∃ a' l, e = .returned (.slice a' l.length l.length) ∧ Made w.heap.size w' a' l ∧ D.val l = 2 ^ k ∧ Below w.heap.size w w' := by
  obtain ⟨m, hm⟩ : ∃ m, k / 8 = m := ⟨_, rfl⟩
  obtain ⟨r, hr⟩ : ∃ r, k % 8 = r := ⟨_, rfl⟩
  have hr8 : r < 8 := by omega
  have q1 : (k : Int) / 8 = (m : Int) := by omega
  have q2 : (k : Int) % 8 = (r : Int) := by omega
  have hmb : m < 8192 := by omega
  have HV : Hid (2 ^ r * 256 ^ m = 2 ^ k) := by
    show 2 ^ r * 256 ^ m = 2 ^ k
    rw [D.pow8 k, hm, hr, Nat.mul_comm]
  have HP := shl_byte r hr8
  have HB := pow_byte r hr8
  clear hm hr
  go_enter Safg.func259, Safg.ntmps259
  go_upto_region 2 with (refine wpList_make_bytes _ rfl _ _ 98 rfl Safg.underlying98 .i64 .i64 _ _ (m + 1) rfl rfl (by omega) (by omega) (by omega) ?_; intro w2 g hg o2 b2)
  have hcell := o2.cell m (by simp)
  have hfr := o2.free m
  go_wp2
  go_ret
  have hset := o2.setI (k := m) (by simp) (2 ^ r) (i := (2 : Int) ^ r) (by simp)
  have hnm : D.Nm ((List.replicate (m + 1) 0).set m (2 ^ r)) := by
    intro _
    have hl : ((List.replicate (m + 1) 0).set m (2 ^ r)).length = m + 1 := by simp
    rw [hl, Nat.add_sub_cancel, D.getD_set (by simp), if_pos rfl]
    have : 0 < 2 ^ r := Nat.pow_pos (by omega)
    omega
  refine ⟨_, (List.replicate (m + 1) 0).set m (2 ^ r), ?_, Made.of_own hset ((D.Dig.replicate _).set _ HB) hnm ?_ hg, ?_, b2.setCell hg _⟩
  · have hl : ((List.replicate (m + 1) 0).set m (2 ^ r)).length = m + 1 := by simp
    rw [hl]; rfl
  · intro e
    have := congrArg List.length e
    simp at this
  · rw [val_one_at]; exact HV.out

theorem len_of_lt {l : List Nat} {k : Nat} (hn : D.Nm l) (h : D.val l < 256 ^ k) : l.length ≤ k := by
  rcases Nat.lt_or_ge k l.length with h1 | h1
  · have hne : l ≠ [] := by intro e; rw [e] at h1; simp at h1
    have := D.Nm.val_ge hn hne
    have h2 : 256 ^ k ≤ 256 ^ (l.length - 1) := Nat.pow_le_pow_right (by omega) (by omega)
    omega
  · exact h1
theorem IsNat.len {w : World} {a : Option Addr} {l : List Nat} (h : IsNat w a l) {k : Nat} (hv : D.val l < 256 ^ k) : l.length ≤ k := len_of_lt h.nm hv

set_option maxRecDepth 100000 in
set_option maxHeartbeats 1000000 in
theorem bit_any (w : World) (a : Option Addr) (len cap : Nat) (l : List Nat) (h : Rd w a len l) (hc : len ≤ cap) (hm : cap ≤ 281474976710656) (i : Nat) (hi : i < 65536) :
    Calls Safg.prog 261 #[.slice a len cap, .int .u16 (i : Int)] w fun e w' => e = .returned (.bool (decide (D.val l / 2 ^ i % 2 = 1))) ∧ w' = w := by
  have hl := h.length
  obtain ⟨m, hm'⟩ : ∃ m, i / 8 = m := ⟨_, rfl⟩
  obtain ⟨r, hr⟩ : ∃ r, i % 8 = r := ⟨_, rfl⟩
  have hr8 : r < 8 := by omega
  have q1 : (i : Int) / 8 = (m : Int) := by omega
  have q2 : (i : Int) % 8 = (r : Int) := by omega
  have hmb : m < 8192 := by omega
  have HB : Hid (l.getD m 0 / 2 ^ r % 2 = D.val l / 2 ^ i % 2) := by
    show _ = _
    rw [← hm', ← hr]; exact D.bit_at h.dig i
  have H0 : Hid (len ≤ m → D.val l / 2 ^ i % 2 = 0) := by
    intro hle
    rw [← HB.out, List.getD_eq_getElem?_getD, List.getElem?_eq_none (by omega)]
    show 0 / 2 ^ r % 2 = 0
    rw [Nat.zero_div]
  obtain ⟨q, HQ⟩ : ∃ q, Hid (decide (D.val l / 2 ^ i % 2 = 1) = q) := ⟨_, rfl⟩
  rw [HQ.out]
  clear hm' hr
  by_cases hlt : m < len
  · obtain ⟨b, off, rfl, hb, hcell⟩ := h.cell m hlt
    have hx := h.dig.getD m
    have HA := and_one (l.getD m 0) r hx
    rw [HB.out] at HA
    generalize D.val l / 2 ^ i % 2 = z at *
    generalize l.getD m 0 = x at *
    have t1 : ((z : Int) == 1) = q := by
      rw [← HQ.out]
      by_cases h1 : z = 1
      · subst h1; rfl
      · rw [decide_eq_false h1]; simp; omega
    have t2 : decide ((m : Int) < (len : Int)) = true := decide_eq_true (by omega)
    go_enter Safg.func261, Safg.ntmps261
    go_wp2
    go_ret
    exact ⟨rfl, rfl⟩
  · have e0 : q = false := by
      rw [← HQ.out, H0.out (by omega)]; rfl
    subst e0
    have t2 : decide ((m : Int) < (len : Int)) = false := decide_eq_false (by omega)
    go_enter Safg.func261, Safg.ntmps261
    go_wp2
    go_ret
    exact ⟨rfl, rfl⟩

set_option maxRecDepth 100000 in
set_option maxHeartbeats 1000000 in
theorem wrapped_any (w : World) (a : Option Addr) (l : List Nat) (h : Rd w a l.length l) (hm : l.length ≤ 281474976710656) :
    Calls Safg.prog 97 #[.slice a l.length l.length] w fun e w' => ∃ a' l', e = .returned (.slice a' l'.length l'.length) ∧ Made w.heap.size w' a' l' ∧ D.val l' = D.val l % 256 ^ 32 ∧ Below w.heap.size w w' := by
  obtain ⟨n, hn⟩ : ∃ n, l.length = n := ⟨_, rfl⟩
  obtain ⟨k, hk⟩ : ∃ k, min n 32 = k := ⟨_, rfl⟩
  have hmin : min (n : Int) 32 = (k : Int) := by omega
  have hkn : k ≤ n := by omega
  rw [hn] at h ⊢
  have hrd := h.take hkn
  have hdv : Hid (D.val (D.trimL (l.take k)) = D.val l % 256 ^ 32) := by
    show _ = _
    rw [D.trimL_val]
    rcases Nat.lt_or_ge n 32 with h1 | h1
    · have e : k = n := by omega
      rw [e, List.take_of_length_le (by omega), Nat.mod_eq_of_lt]
      have := D.val_lt h.dig
      refine Nat.lt_of_lt_of_le this (Nat.pow_le_pow_right (by omega) (by omega))
    · have e : k = 32 := by omega
      subst e
      have e2 := D.val_split l 32 (by omega)
      have e3 := D.val_lt (h.dig.take 32)
      have e4 : (l.take 32).length = 32 := by simp; omega
      rw [e4] at e3
      rw [e2, Nat.add_mul_mod_self_left, Nat.mod_eq_of_lt e3]
  clear hk
  go_enter Safg.func97, Safg.ntmps97
  go_wp2_with (go_at_call 256; refine (norm_any _ _ _ _ (l.take k) hrd (by omega) (by omega)).mono ?_; rintro e w2 ⟨a', rfl, hm, b3⟩)
  go_ret
  exact ⟨a', _, rfl, hm, hdv.out, b3⟩
end Go.Proofs.YgcsafGreat
