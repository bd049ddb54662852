/-
  What memory costs: 'mach.MemCost' (14), 'yp.MemCost' (43), 'law.memCeilingHolds' (13).
-/
import Derived.Test.YgcsafDiv512
import Derived.Test.YgcsafGas
namespace Go.Proofs.Ygcsaf
open Go.RowKit
set_option linter.unusedVariables false
set_option linter.unusedSimpArgs false

set_option maxHeartbeats 400000 in
theorem plus_any (w : World) (x y : Nat) (hx : x < 18446744073709551616) (hy : y < 18446744073709551616) :
    Calls Safg.prog 47 #[.int .u64 (x : Int), .int .u64 (y : Int)] w fun e w' => e = .returned (.int .u64 ((min (x + y) 18446744073709551615 : Nat) : Int)) ∧ w' = w := by
  go_enter Safg.func47, Safg.ntmps47
  go_wp2_with fail
  refine (Add64_any _ x y hx hy).mono ?_
  rintro e w1 ⟨rfl, hw⟩
  subst hw
  obtain ⟨s, HS⟩ : ∃ s, Hid ((x + y) % 18446744073709551616 = s) := ⟨_, rfl⟩
  obtain ⟨c, HC⟩ : ∃ c, Hid ((x + y) / 18446744073709551616 = c) := ⟨_, rfl⟩
  rw [HS.out, HC.out]
  by_cases h : c = 0
  · have HE : Hid (((min (x + y) 18446744073709551615 : Nat) : Int) = (s : Int)) := by
      show _ = _
      have := HS.out; have := HC.out; congr 1; omega
    have hc : ((c : Int) != 0) = false := by simp [h]
    clear h
    go_wp2
    go_ret
    exact ⟨by rw [HE.out]; rfl, rfl⟩
  · have HE : Hid (((min (x + y) 18446744073709551615 : Nat) : Int) = 18446744073709551615) := by
      show _ = _
      have := HC.out; have : min (x + y) 18446744073709551615 = 18446744073709551615 := by omega
      rw [this]; rfl
    have hc : ((c : Int) != 0) = true := by rw [bne_iff_ne]; omega
    clear h
    go_wp2
    go_ret
    exact ⟨by rw [HE.out]; rfl, rfl⟩

set_option maxHeartbeats 400000 in
theorem times_any (w : World) (x y : Nat) (hx : x < 18446744073709551616) (hy : y < 18446744073709551616) :
    Calls Safg.prog 48 #[.int .u64 (x : Int), .int .u64 (y : Int)] w fun e w' => e = .returned (.int .u64 ((min (x * y) 18446744073709551615 : Nat) : Int)) ∧ w' = w := by
  go_enter Safg.func48, Safg.ntmps48
  go_wp2_with fail
  refine (Mul64_any _ x y hx hy).mono ?_
  rintro e w1 ⟨rfl, hw⟩
  subst hw
  obtain ⟨s, HS⟩ : ∃ s, Hid (x * y % 18446744073709551616 = s) := ⟨_, rfl⟩
  obtain ⟨c, HC⟩ : ∃ c, Hid (x * y / 18446744073709551616 = c) := ⟨_, rfl⟩
  rw [HS.out, HC.out]
  by_cases h : c = 0
  · have HE : Hid (((min (x * y) 18446744073709551615 : Nat) : Int) = (s : Int)) := by
      show _ = _
      have := HS.out; have := HC.out; congr 1; generalize x * y = z at *; omega
    have hc : ((c : Int) != 0) = false := by simp [h]
    clear h
    go_wp2
    go_ret
    exact ⟨by rw [HE.out]; rfl, rfl⟩
  · have HE : Hid (((min (x * y) 18446744073709551615 : Nat) : Int) = 18446744073709551615) := by
      show _ = _
      have := HC.out
      generalize x * y = z at *
      have : min z 18446744073709551615 = 18446744073709551615 := by omega
      rw [this]; rfl
    have hc : ((c : Int) != 0) = true := by rw [bne_iff_ne]; omega
    clear h
    go_wp2
    go_ret
    exact ⟨by rw [HE.out]; rfl, rfl⟩

/-- What the machine charges: the sum, at most 2^64-1. -/
def costN (n : Nat) : Nat := min (3 * n + n * n / 512) 18446744073709551615

set_option maxHeartbeats 800000 in
theorem memCost_any (w : World) (n : Nat) (hn : n < 18446744073709551616) :
    Calls Safg.prog 14 #[.int .u64 (n : Int)] w fun e w' => e = .returned (.int .u64 ((costN n : Nat) : Int)) ∧ Same w w' := by
  obtain ⟨c, HC⟩ : ∃ c, Hid (costN n = c) := ⟨_, rfl⟩
  rw [HC.out]
  go_enter Safg.func14, Safg.ntmps14
  go_wp2_with fail
  refine (Mul64_any _ n n hn hn).mono ?_
  rintro e w1 ⟨rfl, hw⟩
  subst hw
  have hh : n * n / 18446744073709551616 < 18446744073709551616 := by
    rw [Nat.div_lt_iff_lt_mul (by omega)]
    exact Nat.mul_lt_mul'' hn hn
  have hl : n * n % 18446744073709551616 < 18446744073709551616 := Nat.mod_lt _ (by omega)
  have HM : Hid (n * n = n * n / 18446744073709551616 * 18446744073709551616 + n * n % 18446744073709551616) := by
    show _ = _
    have := Nat.div_add_mod (n * n) 18446744073709551616
    omega
  generalize n * n / 18446744073709551616 = hi at *
  generalize n * n % 18446744073709551616 = lo at *
  rcases Nat.lt_or_ge hi 512 with h | h
  · go_wp2_with fail
    refine (numDiv_yes _ hi lo h hl).mono ?_
    rintro e w2 ⟨r, rfl, s2⟩
    obtain ⟨q, HQ⟩ : ∃ q, Hid ((hi * 18446744073709551616 + lo) / 512 = q) := ⟨_, rfl⟩
    rw [HQ.out]
    have hq : q < 18446744073709551616 := by have := HQ.out; omega
    go_wp2_with fail
    refine (times_any _ 3 n (by omega) hn).mono ?_
    rintro e w3 ⟨rfl, hw⟩
    subst hw
    go_wp2_with fail
    refine (plus_any _ (min (3 * n) 18446744073709551615) q (by omega) hq).mono ?_
    rintro e w4 ⟨rfl, hw⟩
    subst hw
    have HE : Hid (min (min (3 * n) 18446744073709551615 + q) 18446744073709551615 = c) := by
      show _ = _
      rw [← HC.out]
      unfold costN
      rw [HM.out, HQ.out]; omega
    rw [HE.out]
    go_wp2
    go_ret
    exact ⟨rfl, s2⟩
  · go_wp2_with fail
    refine (numDiv_no _ hi lo h hh hl).mono ?_
    rintro e w2 ⟨rfl, hw⟩
    subst hw
    have HE : Hid ((c : Int) = 18446744073709551615) := by
      show _ = _
      have h1 := HM.out
      have h2 := HC.out
      unfold costN at h2
      generalize n * n = z at *
      have : c = 18446744073709551615 := by omega
      rw [this]; rfl
    go_wp2
    go_ret
    exact ⟨by rw [HE.out]; rfl, Same.refl _⟩

set_option maxHeartbeats 800000 in
theorem ypMemCost_any (w : World) (xa : Option Addr) (A : List Nat) (ha : IsNat w xa A) (hl : A.length ≤ 8) :
    Calls Safg.prog 43 #[.slice xa A.length A.length] w fun e w' => ∃ a' l, e = .returned (.slice a' l.length l.length) ∧ IsNat w' a' l ∧ D.val l = 3 * D.val A + D.val A * D.val A / 512 ∧ l.length ≤ 32 ∧ Below w.heap.size w w' := by
  go_enter Safg.func43, Safg.ntmps43
  go_wp2_with fail
  refine (num_any _ 3 (by omega)).mono ?_
  rintro e w1 ⟨ta, T, rfl, hT, hTv, hTl, b1⟩
  have HT : Hid (D.val T = 3) := hTv
  clear hTv
  have ha1 := ha.below b1
  go_wp2_with fail
  refine (mul_any _ _ _ _ _ _ _ T A hT.nat.rd ha1.rd (Nat.le_refl _) (Nat.le_refl _) (by omega) (by omega) (by omega)).mono ?_
  rintro e w2 ⟨pa, P, rfl, hP, hPv, hPl, b2⟩
  have HP : Hid (D.val P = 3 * D.val A) := by show _ = _; rw [hPv, HT.out]
  clear hPv
  have ha2 := ha1.below b2
  have b02 := b1.trans (b2.mono b1.size)
  go_wp2_with fail
  refine (mul_any _ _ _ _ _ _ _ A A ha2.rd ha2.rd (Nat.le_refl _) (Nat.le_refl _) (by omega) (by omega) (by omega)).mono ?_
  rintro e w3 ⟨sa, S, rfl, hS, hSv, hSl, b3⟩
  have HS : Hid (D.val S = D.val A * D.val A) := hSv
  clear hSv
  have hP3 := hP.nat.below b3
  have b03 := b02.trans (b3.mono b02.size)
  go_wp2_with fail
  refine (divided_any _ _ S hS.nat.rd (by omega) 512 (by omega) (by omega)).mono ?_
  rintro e w4 ⟨qa, Q, rfl, hQ, hQv, hQl, b4⟩
  have HQ : Hid (D.val Q = D.val A * D.val A / 512) := by show _ = _; rw [hQv, HS.out]
  clear hQv
  have hP4 := hP3.below b4
  have b04 := b03.trans (b4.mono b03.size)
  go_wp2_with fail
  refine (add_any _ _ _ _ _ _ _ P Q hP4.rd hQ.rd (Nat.le_refl _) (Nat.le_refl _) (by omega) (by omega)).mono ?_
  rintro e w5 ⟨ra, R, rfl, hR, hRv, hRl, b5⟩
  have HR : Hid (D.val R = 3 * D.val A + D.val A * D.val A / 512) := by show _ = _; rw [hRv, HP.out, HQ.out]
  clear hRv
  have hRl' : R.length ≤ 32 := by omega
  go_wp2
  go_ret
  exact ⟨ra, R, rfl, hR.nat, HR.out, hRl', b04.trans (b5.mono b04.size)⟩

set_option maxHeartbeats 800000 in
theorem memCeilingHolds_true (w : World) (n : Nat) (hn : n < 18446744073709551616) :
    Calls Safg.prog 13 #[.int .u64 (n : Int), .int .u64 ((costN n : Nat) : Int)] w fun e w' => e = .returned (.bool true) ∧ Below w.heap.size w w' := by
  obtain ⟨c, HC⟩ : ∃ c, Hid (costN n = c) := ⟨_, rfl⟩
  rw [HC.out]
  have hc : c < 18446744073709551616 := by have := HC.out; unfold costN at this; omega
  have HB : Hid (22415 < n → 1048576 < c) := by
    intro h
    have h2 : 22416 * 22416 ≤ n * n := Nat.mul_le_mul h h
    have := HC.out
    unfold costN at this
    generalize n * n = z at *
    omega
  go_enter Safg.func13, Safg.ntmps13
  have key : ∃ f : Bool, decide ((22415 : Int) < (n : Int)) = f ∧ (f = true → decide ((c : Int) ≤ 1048576) = false) := by
    by_cases h : 22415 < n
    · exact ⟨true, decide_eq_true (by omega), fun _ => decide_eq_false (by have := HB.out h; omega)⟩
    · exact ⟨false, decide_eq_false (by omega), fun h => by cases h⟩
  obtain ⟨f, hf, hg⟩ := key
  cases f
  · clear hg
    go_upto_region 3 with fail
    go_wp2_with fail
    refine (fromU64_any _ n hn).mono ?_
    rintro e w1 ⟨xa, X, rfl, hX, hXv, hXl, b1⟩
    have HX : Hid (D.val X = n) := hXv
    clear hXv
    go_wp2_with fail
    refine (ypMemCost_any _ _ X hX.nat hXl).mono ?_
    rintro e w2 ⟨ya, Y, rfl, hY, hYv, hYl, b2⟩
    have HY : Hid (D.val Y = 3 * n + n * n / 512) := by show _ = _; rw [hYv, HX.out]
    clear hYv
    have b02 := b1.trans (b2.mono b1.size)
    go_wp2_with fail
    refine (fromU64_any _ 18446744073709551614 (by omega)).mono ?_
    rintro e w3 ⟨za, Z, rfl, hZ, hZv, hZl, b3⟩
    have HZ : Hid (D.val Z = 18446744073709551614) := hZv
    clear hZv
    have hY3 := hY.below b3
    have b03 := b02.trans (b3.mono b02.size)
    go_wp2_with fail
    refine (sameGas_any _ c hc _ Y hY3.rd (by omega)).mono ?_
    rintro e w4 ⟨rfl, b4⟩
    have hY4 := hY3.below b4
    have hZ4 := hZ.nat.below b4
    have b04 := b03.trans (b4.mono b03.size)
    clear b1 b2 b3 b4 b02 b03 hX hY hZ hY3
    by_cases hs : c = D.val Y
    · rw [decide_eq_true hs]
      clear hs
      go_wp2
      go_ret
      exact ⟨rfl, b04⟩
    · rw [decide_eq_false hs]
      have hcc : c = 18446744073709551615 ∧ 18446744073709551614 < D.val Y := by
        have h1 := HC.out
        have h2 := HY.out
        unfold costN at h1
        rw [h2] at hs
        rw [h2]
        generalize 3 * n + n * n / 512 = z at *
        omega
      clear hs
      have hgt : decide ((18446744073709551614 : Int) < (c : Int)) = true := decide_eq_true (by omega)
      have HG : Hid (D.cmpN (D.val Y) (D.val Z) = 1) := D.cmpN_gt (by rw [HZ.out]; exact hcc.2)
      clear hcc
      go_wp2_with (go_at_call 26; refine (cmp_any _ _ _ _ _ _ _ Y Z hY4.rd hZ4.rd (Nat.le_refl _) (Nat.le_refl _) (by omega) (by omega)).mono ?_; rintro e w5 ⟨rfl, s5⟩; rw [HG.out])
      go_ret
      exact ⟨rfl, b04.trans (s5.below _)⟩
  · have hg := hg rfl
    go_upto_region 3 with fail
    go_wp2_with fail
    refine (fromU64_any _ n hn).mono ?_
    rintro e w1 ⟨xa, X, rfl, hX, hXv, hXl, b1⟩
    have HX : Hid (D.val X = n) := hXv
    clear hXv
    go_wp2_with fail
    refine (ypMemCost_any _ _ X hX.nat hXl).mono ?_
    rintro e w2 ⟨ya, Y, rfl, hY, hYv, hYl, b2⟩
    have HY : Hid (D.val Y = 3 * n + n * n / 512) := by show _ = _; rw [hYv, HX.out]
    clear hYv
    have b02 := b1.trans (b2.mono b1.size)
    go_wp2_with fail
    refine (fromU64_any _ 18446744073709551614 (by omega)).mono ?_
    rintro e w3 ⟨za, Z, rfl, hZ, hZv, hZl, b3⟩
    have HZ : Hid (D.val Z = 18446744073709551614) := hZv
    clear hZv
    have hY3 := hY.below b3
    have b03 := b02.trans (b3.mono b02.size)
    go_wp2_with fail
    refine (sameGas_any _ c hc _ Y hY3.rd (by omega)).mono ?_
    rintro e w4 ⟨rfl, b4⟩
    have hY4 := hY3.below b4
    have hZ4 := hZ.nat.below b4
    have b04 := b03.trans (b4.mono b03.size)
    clear b1 b2 b3 b4 b02 b03 hX hY hZ hY3
    by_cases hs : c = D.val Y
    · rw [decide_eq_true hs]
      clear hs
      go_wp2
      go_ret
      exact ⟨rfl, b04⟩
    · rw [decide_eq_false hs]
      have hcc : c = 18446744073709551615 ∧ 18446744073709551614 < D.val Y := by
        have h1 := HC.out
        have h2 := HY.out
        unfold costN at h1
        rw [h2] at hs
        rw [h2]
        generalize 3 * n + n * n / 512 = z at *
        omega
      clear hs
      have hgt : decide ((18446744073709551614 : Int) < (c : Int)) = true := decide_eq_true (by omega)
      have HG : Hid (D.cmpN (D.val Y) (D.val Z) = 1) := D.cmpN_gt (by rw [HZ.out]; exact hcc.2)
      clear hcc
      go_wp2_with (go_at_call 26; refine (cmp_any _ _ _ _ _ _ _ Y Z hY4.rd hZ4.rd (Nat.le_refl _) (Nat.le_refl _) (by omega) (by omega)).mono ?_; rintro e w5 ⟨rfl, s5⟩; rw [HG.out])
      go_ret
      exact ⟨rfl, b04.trans (s5.below _)⟩
end Go.Proofs.Ygcsaf
