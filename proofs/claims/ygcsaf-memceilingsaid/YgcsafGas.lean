import Derived.Test.YgcsafDiv
import Derived.Test.YgcsafMul
import Derived.Test.YgcsafU64
namespace Go.Proofs.Ygcsaf
open Go.RowKit
set_option linter.unusedVariables false
set_option linter.unusedSimpArgs false

set_option maxHeartbeats 400000 in
theorem num_any (w : World) (x : Nat) (hx : x < 18446744073709551616) :
    Calls Safg.prog 88 #[.int .u64 (x : Int)] w fun e w' => ∃ a' l, e = .returned (.slice a' l.length l.length) ∧ Made w.heap.size w' a' l ∧ D.val l = x ∧ l.length ≤ 8 ∧ Below w.heap.size w w' := by
  go_enter Safg.func88, Safg.ntmps88
  go_wp2_with fail
  refine (fromU64_any _ x hx).mono ?_
  rintro e w1 ⟨a', l, rfl, h1, h2, h3, h4⟩
  have H2 : Hid (D.val l = x) := h2
  clear h2
  go_wp2
  go_ret
  exact ⟨a', l, rfl, h1, H2.out, h3, h4⟩

set_option maxHeartbeats 400000 in
theorem divided_any (w : World) (xa : Option Addr) (A : List Nat) (ha : Rd w xa A.length A) (hl : A.length ≤ 281474976710655) (b : Nat) (hb : b < 18446744073709551616) (hb0 : 0 < b) :
    Calls Safg.prog 89 #[.slice xa A.length A.length, .int .u64 (b : Int)] w fun e w' => ∃ a' l, e = .returned (.slice a' l.length l.length) ∧ IsNat w' a' l ∧ D.val l = D.val A / b ∧ l.length ≤ A.length ∧ Below w.heap.size w w' := by
  go_enter Safg.func89, Safg.ntmps89
  go_wp2_with fail
  refine (num_any _ b hb).mono ?_
  rintro e w1 ⟨ba, bl, rfl, h1, h2, h3, h4⟩
  have H2 : Hid (D.val bl = b) := h2
  clear h2
  go_wp2_with fail
  refine (divMod_any _ _ _ _ _ _ _ A bl (ha.below h4) h1.nat.rd (Nat.le_refl _) (Nat.le_refl _) (by omega) (by omega)).mono ?_
  rintro e w2 ⟨b2, hcase⟩
  rcases hcase with ⟨hz, _⟩ | ⟨hpos, qa, Q, ra, R, rfl, hqm, hrm, hv, hlt, lq, lr⟩
  · rw [H2.out] at hz; omega
  · have HQ : Hid (D.val Q = D.val A / b) := by
      show _ = _
      rw [H2.out] at hv hlt
      rw [hv, Nat.mul_comm, Nat.mul_add_div hb0, Nat.div_eq_of_lt hlt]
      simp
    clear hv hlt
    go_wp2
    go_ret
    exact ⟨qa, Q, rfl, hqm.nat, HQ.out, lq, h4.trans (b2.mono h4.size)⟩

set_option maxHeartbeats 400000 in
theorem words_any (w : World) (xa : Option Addr) (A : List Nat) (ha : Rd w xa A.length A) (hl : A.length ≤ 281474976710600) :
    Calls Safg.prog 92 #[.slice xa A.length A.length] w fun e w' => ∃ a' l, e = .returned (.slice a' l.length l.length) ∧ IsNat w' a' l ∧ D.val l = (D.val A + 31) / 32 ∧ l.length ≤ A.length + 9 ∧ Below w.heap.size w w' := by
  go_enter Safg.func92, Safg.ntmps92
  go_wp2_with fail
  refine (num_any _ 31 (by omega)).mono ?_
  rintro e w1 ⟨ba, bl, rfl, h1, h2, h3, h4⟩
  have H2 : Hid (D.val bl = 31) := h2
  clear h2
  go_wp2_with fail
  refine (add_any _ _ _ _ _ _ _ A bl (ha.below h4) h1.nat.rd (Nat.le_refl _) (Nat.le_refl _) (by omega) (by omega)).mono ?_
  rintro e w2 ⟨sa, S, rfl, hsm, hsv, hsl, b2⟩
  have HS : Hid (D.val S = D.val A + 31) := by show _ = _; rw [hsv, H2.out]
  clear hsv
  go_wp2_with fail
  refine (divided_any _ _ S hsm.nat.rd (by omega) 32 (by omega) (by omega)).mono ?_
  rintro e w3 ⟨qa, Q, rfl, hq, hqv, hql, b3⟩
  have HQ : Hid (D.val Q = (D.val A + 31) / 32) := by show _ = _; rw [hqv, HS.out]
  clear hqv
  have b02 := h4.trans (b2.mono h4.size)
  go_wp2
  go_ret
  exact ⟨qa, Q, rfl, hq, HQ.out, by omega, b02.trans (b3.mono b02.size)⟩

set_option maxHeartbeats 400000 in
theorem sameGas_any (w : World) (x : Nat) (hx : x < 18446744073709551616) (ya : Option Addr) (B : List Nat) (hb : Rd w ya B.length B) (hl : B.length ≤ 281474976710655) :
    Calls Safg.prog 44 #[.int .u64 (x : Int), .slice ya B.length B.length] w fun e w' => e = .returned (.bool (decide (x = D.val B))) ∧ Below w.heap.size w w' := by
  go_enter Safg.func44, Safg.ntmps44
  go_wp2_with fail
  refine (fromU64_any _ x hx).mono ?_
  rintro e w1 ⟨xa, X, rfl, h1, h2, h3, h4⟩
  have H2 : Hid (D.val X = x) := h2
  clear h2
  go_wp2_with fail
  refine (cmp_any _ _ _ _ _ _ _ X B h1.nat.rd (hb.below h4) (Nat.le_refl _) (Nat.le_refl _) (by omega) (by omega)).mono ?_
  rintro e w2 ⟨rfl, hs⟩
  rw [H2.out]
  have hres : ((D.cmpN x (D.val B)) == 0) = decide (x = D.val B) := by
    unfold D.cmpN
    by_cases e1 : x < D.val B
    · rw [if_pos e1, decide_eq_false (by omega)]; rfl
    · rw [if_neg e1]
      by_cases e2 : D.val B < x
      · rw [if_pos e2, decide_eq_false (by omega)]; rfl
      · rw [if_neg e2, decide_eq_true (by omega)]; rfl
  have HR : Hid (((D.cmpN x (D.val B)) == 0) = decide (x = D.val B)) := hres
  clear hres
  generalize D.cmpN x (D.val B) = cv at *
  go_wp2
  go_ret
  exact ⟨ret_bool HR.out, h4.trans (hs.below _)⟩
end Go.Proofs.Ygcsaf
