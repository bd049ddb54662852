/-
  'Arena.Check1' (102), 'Check2' (100), 'Check3' (95), 'Check' (61): true of an arena in order.
-/
import Derived.Test.YgcsafEnter
namespace Go.Proofs.Ygcsaf
open Go.RowKit
set_option linter.unusedVariables false
set_option linter.unusedSimpArgs false

theorem check1_true (w : World) (B T : Nat) (bv : Value) (buf base : List Nat) (top : Nat) (h : Ar B T w bv buf base top) (ht : top ≤ 7) :
    Calls Safg.prog 102 #[.pointer (some ⟨T, 0, none⟩)] w fun e w' => e = .returned (.bool true) ∧ w' = w := by
  have c9 := h.c9
  have t1 : decide ((top : Int) ≤ 7) = true := decide_eq_true (by omega)
  go_enter Safg.func102, Safg.ntmps102
  go_wp2
  go_ret
  exact ⟨rfl, rfl⟩

set_option maxRecDepth 100000 in
set_option maxHeartbeats 2000000 in
theorem check2_true (w : World) (B T : Nat) (bv : Value) (buf base : List Nat) (top : Nat) (h : Ar B T w bv buf base top) (ok : ArOk buf base top) :
    Calls Safg.prog 100 #[.pointer (some ⟨T, 0, none⟩)] w fun e w' => e = .returned (.bool true) ∧ Same w w' := by
  have ht := ok.top_le
  have c1 := h.cb 0 (by omega)
  rw [ok.zero] at c1
  go_enter Safg.func100, Safg.ntmps100
  go_upto_region 4 with (go_at_call 102; refine (check1_true _ B T bv buf base top h ht).mono ?_; rintro e w1 ⟨rfl, hw⟩; subst hw)
  clear c1
  go_loopw [3] (fun i wr => ∃ j : Nat, j ≤ top ∧ i = .int .u8 (j : Int) ∧ Same w1 wr) (fun i _ => 7 - (intOf i).toNat)
  case atStart => exact ⟨0, Nat.zero_le _, rfl, Same.refl _⟩
  case round =>
    obtain ⟨j, hj, rfl, hs⟩ := hrel
    have HS : Hid (Same w1 wr) := hs
    have c9 := (hs.cell ⟨T, 9, none⟩).trans h.c9
    by_cases hjt : j < top
    · have t1 : decide ((j : Int) < (top : Int)) = true := decide_eq_true (by omega)
      have ca := (hs.cell ⟨T, 1 + j, none⟩).trans (h.cb j (by omega))
      have cb := (hs.cell ⟨T, 1 + (j + 1), none⟩).trans (h.cb (j + 1) (by omega))
      obtain ⟨u1, u2, u3⟩ := ok.up j hjt
      have l1 := ok.low j
      have l2 := ok.low (j + 1)
      clear hs
      generalize base.getD j 0 = x at *
      generalize base.getD (j + 1) 0 = y at *
      obtain ⟨d, HD⟩ : ∃ d : Nat, Hid ((y : Int) - (x : Int) = (d : Int)) := ⟨y - x, by show _ = _; omega⟩
      have t2 : decide ((y : Int) < (x : Int)) = false := decide_eq_false (by omega)
      have hd : d ≤ 717280 ∧ d % 32 = 0 := by have := HD.out; omega
      have t3 : ((d : Int) % 32 != 0) = false := by simp; omega
      have t4 : decide ((717280 : Int) < (d : Int)) = false := decide_eq_false (by omega)
      have hd1 := hd.1
      clear hd u2 u3
      obtain rfl | rfl | rfl | rfl | rfl | rfl | rfl : j = 0 ∨ j = 1 ∨ j = 2 ∨ j = 3 ∨ j = 4 ∨ j = 5 ∨ j = 6 := by omega
      all_goals (
        go_upto_region 6 with fail
        go_quiet (fail)
        go_upto_region 8 with fail
        go_quiet (fail)
        go_upto_region 9 with fail
        rw [HD.out]
        go_wp2_with fail
        go_roundw
        case rel => exact ⟨_, hjt, rfl, HS.out.trans (Same.drewN _ _)⟩
        case measure => simp [intOf])
    · have t1 : decide ((j : Int) < (top : Int)) = false := decide_eq_false (by omega)
      clear hs
      go_wp2
      go_ret
      exact ⟨rfl, HS.out⟩
end Go.Proofs.Ygcsaf
