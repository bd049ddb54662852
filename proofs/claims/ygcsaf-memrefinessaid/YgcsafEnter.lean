/-
  'Arena.Enter' (51), 'Arena.Leave' (52).
-/
import Derived.Test.YgcsafPart
namespace Go.Proofs.Ygcsaf
open Go.RowKit
set_option linter.unusedVariables false
set_option linter.unusedSimpArgs false

theorem enter_full (w : World) (B T : Nat) (bv : Value) (buf base : List Nat) (h : Ar B T w bv buf base 7) :
    Calls Safg.prog 51 #[.pointer (some ⟨T, 0, none⟩)] w fun e w' => e = .returned (.bool false) ∧ w' = w := by
  have c9 := h.c9
  go_enter Safg.func51, Safg.ntmps51
  go_wp2
  go_ret
  exact ⟨rfl, rfl⟩

theorem Same.drew (w : World) : Same w w.drew := ⟨rfl, rfl, rfl, rfl⟩

set_option maxHeartbeats 1000000 in
theorem enter_room (w : World) (B T : Nat) (bv : Value) (buf base : List Nat) (k : Nat) (h : Ar B T w bv buf base k) (hk : k ≤ 6) :
    Calls Safg.prog 51 #[.pointer (some ⟨T, 0, none⟩)] w fun e w' => e = .returned (.bool true) ∧ Same ((w.setCell ⟨T, 1 + (k + 1), none⟩ (.int .u32 ((base.getD k 0 : Nat) : Int))).setCell ⟨T, 9, none⟩ (.int .u8 ((k + 1 : Nat) : Int))) w' := by
  have c9 := h.c9
  have ca := h.cb k (by omega)
  have cb := h.cb (k + 1) (by omega)
  have fa := h.free (1 + (k + 1))
  have f9 := h.free 9
  generalize base.getD k 0 = x at *
  generalize base.getD (k + 1) 0 = y at *
  clear h
  obtain rfl | rfl | rfl | rfl | rfl | rfl | rfl : k = 0 ∨ k = 1 ∨ k = 2 ∨ k = 3 ∨ k = 4 ∨ k = 5 ∨ k = 6 := by omega
  all_goals (
    go_enter Safg.func51, Safg.ntmps51
    go_upto_region 3 with fail
    go_region
    go_wp2
    go_ret
    exact ⟨rfl, Same.drew _⟩)

theorem leave_none (w : World) (B T : Nat) (bv : Value) (buf base : List Nat) (h : Ar B T w bv buf base 0) :
    Calls Safg.prog 52 #[.pointer (some ⟨T, 0, none⟩)] w fun e w' => e = .returned (.bool false) ∧ w' = w := by
  have c9 := h.c9
  go_enter Safg.func52, Safg.ntmps52
  go_wp2
  go_ret
  exact ⟨rfl, rfl⟩

theorem leave_some (w : World) (B T : Nat) (bv : Value) (buf base : List Nat) (k : Nat) (h : Ar B T w bv buf base (k + 1)) (hk : k ≤ 6) :
    Calls Safg.prog 52 #[.pointer (some ⟨T, 0, none⟩)] w fun e w' => e = .returned (.bool true) ∧ w' = w.setCell ⟨T, 9, none⟩ (.int .u8 (k : Int)) := by
  have c9 := h.c9
  have f9 := h.free 9
  clear h
  obtain rfl | rfl | rfl | rfl | rfl | rfl | rfl : k = 0 ∨ k = 1 ∨ k = 2 ∨ k = 3 ∨ k = 4 ∨ k = 5 ∨ k = 6 := by omega
  all_goals (
    go_enter Safg.func52, Safg.ntmps52
    go_wp2
    go_ret
    exact ⟨rfl, rfl⟩)
end Go.Proofs.Ygcsaf
