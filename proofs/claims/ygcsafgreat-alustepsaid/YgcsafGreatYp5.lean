/-
  'yp.pickedByte' (111).
-/
import Derived.Test.YgcsafGreatYp4
namespace Go.Proofs.YgcsafGreat
open Go.RowKit
set_option linter.unusedVariables false
set_option linter.unusedSimpArgs false

set_option maxRecDepth 100000 in
set_option maxHeartbeats 2000000 in
theorem pickedByte_any (w : World) (a b : Option Addr) (A B : List Nat) (ha : IsNat w a A) (hb : IsNat w b B) (va : D.val A < b256) (vb : D.val B < b256) :
    Calls Safg.prog 111 #[.slice a A.length A.length, .slice b B.length B.length] w (NatRes w (byteW (D.val A) (D.val B))) := by
  have la : A.length ≤ 32 := ha.len (by rw [← b256_pow]; exact va)
  have lb : B.length ≤ 32 := hb.len (by rw [← b256_pow]; exact vb)
  rcases Nat.lt_or_ge (D.val A) 18446744073709551616 with hbig | hbig
  · have HU := u64_small w a A ha (by omega) hbig
    by_cases h32 : 32 ≤ D.val A
    · have e : byteW (D.val A) (D.val B) = 0 := by unfold byteW; rw [if_pos h32]
      rw [e]
      have t1 : decide ((32 : Int) ≤ (D.val A : Int)) = true := decide_eq_true (by omega)
      generalize D.val A = x at *
      clear va vb e
      go_enter Safg.func111, Safg.ntmps111
      go_wp2_with (first | (go_at_call 262; refine HU.mono ?_; rintro e w1 ⟨hw, rfl⟩; subst hw))
      go_ret
      exact ⟨none, [], rfl, (Made.nil 0 _).nat, rfl, Below.refl _ _⟩
    · have e : byteW (D.val A) (D.val B) = B.getD (31 - D.val A) 0 := by
        unfold byteW; rw [if_neg h32]; exact (D.getD_val hb.rd.dig _).symm
      rw [e]
      have t1 : decide ((32 : Int) ≤ (D.val A : Int)) = false := decide_eq_false (by omega)
      generalize D.val A = x at *
      obtain ⟨k, hk⟩ : ∃ k, 31 - x = k := ⟨_, rfl⟩
      have q1 : (31 : Int) - (x : Int) = (k : Int) := by omega
      rw [hk]
      clear va vb e
      by_cases hkl : k < B.length
      · have t2 : decide ((B.length : Int) ≤ (k : Int)) = false := decide_eq_false (by omega)
        obtain ⟨bb, off, rfl, hbl, hcell⟩ := hb.rd.cell k hkl
        have hdig := hb.rd.dig.getD k
        generalize B.getD k 0 = z at *
        have HO : Own (w.alloc (.cells #[Value.int .u8 (z : Int)] 5)) w.heap.size [z] := Own.of_slice w z 5
        have b1 : Below w.heap.size w (w.alloc (.cells #[Value.int .u8 (z : Int)] 5)) := (Below.refl _ _).alloc (Nat.le_refl _) _
        have HN := norm_any (w.alloc (.cells #[Value.int .u8 (z : Int)] 5)) (some ⟨w.heap.size, 0, none⟩) 1 1 [z] (HO.rd (D.Dig.cons hdig D.Dig.nil)) (Nat.le_refl _) (by omega)
        go_enter Safg.func111, Safg.ntmps111
        go_wp2_with (first | (go_at_call 262; refine HU.mono ?_; rintro e w1 ⟨hw, rfl⟩; subst hw) | (go_at_call 256; refine HN.mono ?_; rintro e w1 ⟨a1, rfl, m1, b2⟩))
        go_ret
        exact ⟨a1, _, rfl, m1.nat, by rw [D.trimL_val]; simp [D.val], b1.trans (b2.mono b1.size)⟩
      · have t2 : decide ((B.length : Int) ≤ (k : Int)) = true := decide_eq_true (by omega)
        have e0 : B.getD k 0 = 0 := by rw [List.getD_eq_getElem?_getD, List.getElem?_eq_none (by omega)]; rfl
        rw [e0]
        go_enter Safg.func111, Safg.ntmps111
        go_wp2_with (first | (go_at_call 262; refine HU.mono ?_; rintro e w1 ⟨hw, rfl⟩; subst hw))
        go_ret
        exact ⟨none, [], rfl, (Made.nil 0 _).nat, rfl, Below.refl _ _⟩
  · have HU := u64_big w a A ha (by omega) hbig
    have e : byteW (D.val A) (D.val B) = 0 := by unfold byteW; rw [if_pos (by omega)]
    rw [e]
    generalize D.val A = x at *
    clear va vb e
    go_enter Safg.func111, Safg.ntmps111
    go_wp2_with (first | (go_at_call 262; refine HU.mono ?_; rintro e w1 ⟨hw, rfl⟩; subst hw))
    go_ret
    exact ⟨none, [], rfl, (Made.nil 0 _).nat, rfl, Below.refl _ _⟩
end Go.Proofs.YgcsafGreat
