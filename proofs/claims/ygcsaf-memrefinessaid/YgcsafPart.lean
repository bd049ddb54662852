/-
  'Arena.part' (94), 'Arena.Len' (54).
-/
import Derived.Test.YgcsafArena
namespace Go.Proofs.Ygcsaf
open Go.RowKit
set_option linter.unusedVariables false
set_option linter.unusedSimpArgs false

theorem part_none (w : World) (B T : Nat) (bv : Value) (buf base : List Nat) (h : Ar B T w bv buf base 0) (off n : Nat) :
    Calls Safg.prog 94 #[.pointer (some ⟨T, 0, none⟩), .int .u32 (off : Int), .int .u32 (n : Int)] w fun e w' => e = .returned (.tuple #[.slice none 0 0, .bool false]) ∧ w' = w := by
  go_enter Safg.func94, Safg.ntmps94
  go_wp2_with fail
  refine (top_none w B T bv buf base h).mono ?_
  rintro e w1 ⟨rfl, hw⟩
  subst hw
  go_wp2
  go_ret2
  exact ⟨rfl, rfl⟩

set_option maxHeartbeats 1000000 in
theorem part_some (w : World) (B T : Nat) (bv : Value) (buf base : List Nat) (k : Nat) (h : Ar B T w bv buf base (k + 1)) (ok : ArOk buf base (k + 1)) (lo hi : Nat) (hlo : base.getD k 0 = lo) (hhi : base.getD (k + 1) 0 = hi)
    (off n : Nat) (ho : off < 4294967296) (hn : n < 4294967296) :
    Calls Safg.prog 94 #[.pointer (some ⟨T, 0, none⟩), .int .u32 (off : Int), .int .u32 (n : Int)] w fun e w' => Same w w' ∧
      ((hi - lo < off + n ∧ e = .returned (.tuple #[.slice none 0 0, .bool false])) ∨
       (off + n ≤ hi - lo ∧ ∃ ad, e = .returned (.tuple #[.slice ad n n, .bool true]) ∧ (0 < n → ∃ g, bv.ownBlock = some g ∧ ad = some ⟨g, lo + off, none⟩))) := by
  have h5 : hi < 4294967296 := by rw [← hhi]; exact ok.low (k + 1)
  have HT := top_some w B T bv buf base k h ok lo hi hlo hhi
  obtain ⟨m, HM⟩ : ∃ m, Hid (hi - lo = m) := ⟨_, rfl⟩
  have hm : m < 4294967296 := by have := HM.out; omega
  rw [HM.out] at HT
  rw [HM.out]
  go_enter Safg.func94, Safg.ntmps94
  go_wp2_with fail
  refine HT.mono ?_
  rintro e w1 ⟨ad, rfl, had, s1⟩
  have HAD : Hid (0 < m → ∃ g, bv.ownBlock = some g ∧ ad = some ⟨g, lo, none⟩) := had
  clear had h ok hlo hhi HT
  by_cases h1 : n ≤ m
  · have t1 : decide ((m : Int) < (n : Int)) = false := decide_eq_false (by omega)
    by_cases h2 : off + n ≤ m
    · have t2 : decide ((m : Int) - (n : Int) < (off : Int)) = false := decide_eq_false (by omega)
      by_cases h0 : n = 0
      · subst h0
        cases ad with
        | none =>
          go_wp2
          all_goals (go_ret2; exact ⟨s1, .inr ⟨h2, _, rfl, fun h => absurd h (by omega)⟩⟩)
        | some a =>
          go_wp2
          all_goals (go_ret2; exact ⟨s1, .inr ⟨h2, _, rfl, fun h => absurd h (by omega)⟩⟩)
      · obtain ⟨g, hg, rfl⟩ := HAD.out (by omega)
        go_wp2
        go_ret2
        exact ⟨s1, .inr ⟨h2, some ⟨g, lo + off, none⟩, by rw [Nat.add_sub_cancel_left]; rfl, fun _ => ⟨g, hg, rfl⟩⟩⟩
    · have t2 : decide ((m : Int) - (n : Int) < (off : Int)) = true := decide_eq_true (by omega)
      go_wp2
      go_ret2
      exact ⟨s1, .inl ⟨by omega, rfl⟩⟩
  · have t1 : decide ((m : Int) < (n : Int)) = true := decide_eq_true (by omega)
    go_wp2
    go_ret2
    exact ⟨s1, .inl ⟨by omega, rfl⟩⟩

theorem len_none (w : World) (B T : Nat) (bv : Value) (buf base : List Nat) (h : Ar B T w bv buf base 0) :
    Calls Safg.prog 54 #[.pointer (some ⟨T, 0, none⟩)] w fun e w' => e = .returned (.int .u32 0) ∧ w' = w := by
  go_enter Safg.func54, Safg.ntmps54
  go_wp2_with fail
  refine (top_none w B T bv buf base h).mono ?_
  rintro e w1 ⟨rfl, hw⟩
  subst hw
  go_wp2
  go_ret
  exact ⟨rfl, rfl⟩

theorem len_some (w : World) (B T : Nat) (bv : Value) (buf base : List Nat) (k : Nat) (h : Ar B T w bv buf base (k + 1)) (ok : ArOk buf base (k + 1)) (lo hi : Nat) (hlo : base.getD k 0 = lo) (hhi : base.getD (k + 1) 0 = hi) :
    Calls Safg.prog 54 #[.pointer (some ⟨T, 0, none⟩)] w fun e w' => e = .returned (.int .u32 ((hi - lo : Nat) : Int)) ∧ Same w w' := by
  have h5 : hi < 4294967296 := by rw [← hhi]; exact ok.low (k + 1)
  have HT := top_some w B T bv buf base k h ok lo hi hlo hhi
  obtain ⟨m, HM⟩ : ∃ m, Hid (hi - lo = m) := ⟨_, rfl⟩
  have hm : m < 4294967296 := by have := HM.out; omega
  rw [HM.out] at HT
  rw [HM.out]
  go_enter Safg.func54, Safg.ntmps54
  go_wp2_with fail
  refine HT.mono ?_
  rintro e w1 ⟨ad, rfl, had, s1⟩
  clear had h ok hlo hhi HT
  go_wp2
  go_ret
  exact ⟨rfl, s1⟩
end Go.Proofs.Ygcsaf
