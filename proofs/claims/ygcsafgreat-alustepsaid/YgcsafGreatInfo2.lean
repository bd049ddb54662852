/-
  mach.Info (22).
-/
import Derived.Test.YgcsafGreatInfo1
namespace Go.Proofs.YgcsafGreat
open Go.RowKit
set_option linter.unusedVariables false
set_option linter.unusedSimpArgs false

set_option maxRecDepth 100000 in
set_option maxHeartbeats 2000000 in
theorem info_16 (w : World) : Calls Safg.prog 22 #[.int .u8 16] w fun e w' => e = .returned (.tuple #[.int .u8 2, .int .u8 1, .int .u16 3, .bool true]) ∧ w' = w := by
  go_enter Safg.func22, Safg.ntmps22
  go_wp2
  refine bodyPost_ret (v := .tuple #[.int .u8 2, .int .u8 1, .int .u16 3, .bool true]) ?_ rfl ⟨rfl, rfl⟩
  simp [results, Safg.results22]
set_option maxRecDepth 100000 in
set_option maxHeartbeats 2000000 in
theorem info_17 (w : World) : Calls Safg.prog 22 #[.int .u8 17] w fun e w' => e = .returned (.tuple #[.int .u8 2, .int .u8 1, .int .u16 3, .bool true]) ∧ w' = w := by
  go_enter Safg.func22, Safg.ntmps22
  go_wp2
  refine bodyPost_ret (v := .tuple #[.int .u8 2, .int .u8 1, .int .u16 3, .bool true]) ?_ rfl ⟨rfl, rfl⟩
  simp [results, Safg.results22]
set_option maxRecDepth 100000 in
set_option maxHeartbeats 2000000 in
theorem info_18 (w : World) : Calls Safg.prog 22 #[.int .u8 18] w fun e w' => e = .returned (.tuple #[.int .u8 2, .int .u8 1, .int .u16 3, .bool true]) ∧ w' = w := by
  go_enter Safg.func22, Safg.ntmps22
  go_wp2
  refine bodyPost_ret (v := .tuple #[.int .u8 2, .int .u8 1, .int .u16 3, .bool true]) ?_ rfl ⟨rfl, rfl⟩
  simp [results, Safg.results22]
set_option maxRecDepth 100000 in
set_option maxHeartbeats 2000000 in
theorem info_19 (w : World) : Calls Safg.prog 22 #[.int .u8 19] w fun e w' => e = .returned (.tuple #[.int .u8 2, .int .u8 1, .int .u16 3, .bool true]) ∧ w' = w := by
  go_enter Safg.func22, Safg.ntmps22
  go_wp2
  refine bodyPost_ret (v := .tuple #[.int .u8 2, .int .u8 1, .int .u16 3, .bool true]) ?_ rfl ⟨rfl, rfl⟩
  simp [results, Safg.results22]
set_option maxRecDepth 100000 in
set_option maxHeartbeats 2000000 in
theorem info_20 (w : World) : Calls Safg.prog 22 #[.int .u8 20] w fun e w' => e = .returned (.tuple #[.int .u8 2, .int .u8 1, .int .u16 3, .bool true]) ∧ w' = w := by
  go_enter Safg.func22, Safg.ntmps22
  go_wp2
  refine bodyPost_ret (v := .tuple #[.int .u8 2, .int .u8 1, .int .u16 3, .bool true]) ?_ rfl ⟨rfl, rfl⟩
  simp [results, Safg.results22]
set_option maxRecDepth 100000 in
set_option maxHeartbeats 2000000 in
theorem info_21 (w : World) : Calls Safg.prog 22 #[.int .u8 21] w fun e w' => e = .returned (.tuple #[.int .u8 1, .int .u8 1, .int .u16 3, .bool true]) ∧ w' = w := by
  go_enter Safg.func22, Safg.ntmps22
  go_wp2
  refine bodyPost_ret (v := .tuple #[.int .u8 1, .int .u8 1, .int .u16 3, .bool true]) ?_ rfl ⟨rfl, rfl⟩
  simp [results, Safg.results22]
set_option maxRecDepth 100000 in
set_option maxHeartbeats 2000000 in
theorem info_22 (w : World) : Calls Safg.prog 22 #[.int .u8 22] w fun e w' => e = .returned (.tuple #[.int .u8 2, .int .u8 1, .int .u16 3, .bool true]) ∧ w' = w := by
  go_enter Safg.func22, Safg.ntmps22
  go_wp2
  refine bodyPost_ret (v := .tuple #[.int .u8 2, .int .u8 1, .int .u16 3, .bool true]) ?_ rfl ⟨rfl, rfl⟩
  simp [results, Safg.results22]
set_option maxRecDepth 100000 in
set_option maxHeartbeats 2000000 in
theorem info_23 (w : World) : Calls Safg.prog 22 #[.int .u8 23] w fun e w' => e = .returned (.tuple #[.int .u8 2, .int .u8 1, .int .u16 3, .bool true]) ∧ w' = w := by
  go_enter Safg.func22, Safg.ntmps22
  go_wp2
  refine bodyPost_ret (v := .tuple #[.int .u8 2, .int .u8 1, .int .u16 3, .bool true]) ?_ rfl ⟨rfl, rfl⟩
  simp [results, Safg.results22]
set_option maxRecDepth 100000 in
set_option maxHeartbeats 2000000 in
theorem info_24 (w : World) : Calls Safg.prog 22 #[.int .u8 24] w fun e w' => e = .returned (.tuple #[.int .u8 2, .int .u8 1, .int .u16 3, .bool true]) ∧ w' = w := by
  go_enter Safg.func22, Safg.ntmps22
  go_wp2
  refine bodyPost_ret (v := .tuple #[.int .u8 2, .int .u8 1, .int .u16 3, .bool true]) ?_ rfl ⟨rfl, rfl⟩
  simp [results, Safg.results22]
set_option maxRecDepth 100000 in
set_option maxHeartbeats 2000000 in
theorem info_25 (w : World) : Calls Safg.prog 22 #[.int .u8 25] w fun e w' => e = .returned (.tuple #[.int .u8 1, .int .u8 1, .int .u16 3, .bool true]) ∧ w' = w := by
  go_enter Safg.func22, Safg.ntmps22
  go_wp2
  refine bodyPost_ret (v := .tuple #[.int .u8 1, .int .u8 1, .int .u16 3, .bool true]) ?_ rfl ⟨rfl, rfl⟩
  simp [results, Safg.results22]
set_option maxRecDepth 100000 in
set_option maxHeartbeats 2000000 in
theorem info_26 (w : World) : Calls Safg.prog 22 #[.int .u8 26] w fun e w' => e = .returned (.tuple #[.int .u8 2, .int .u8 1, .int .u16 3, .bool true]) ∧ w' = w := by
  go_enter Safg.func22, Safg.ntmps22
  go_wp2
  refine bodyPost_ret (v := .tuple #[.int .u8 2, .int .u8 1, .int .u16 3, .bool true]) ?_ rfl ⟨rfl, rfl⟩
  simp [results, Safg.results22]
set_option maxRecDepth 100000 in
set_option maxHeartbeats 2000000 in
theorem info_27 (w : World) : Calls Safg.prog 22 #[.int .u8 27] w fun e w' => e = .returned (.tuple #[.int .u8 2, .int .u8 1, .int .u16 3, .bool true]) ∧ w' = w := by
  go_enter Safg.func22, Safg.ntmps22
  go_wp2
  refine bodyPost_ret (v := .tuple #[.int .u8 2, .int .u8 1, .int .u16 3, .bool true]) ?_ rfl ⟨rfl, rfl⟩
  simp [results, Safg.results22]
set_option maxRecDepth 100000 in
set_option maxHeartbeats 2000000 in
theorem info_28 (w : World) : Calls Safg.prog 22 #[.int .u8 28] w fun e w' => e = .returned (.tuple #[.int .u8 2, .int .u8 1, .int .u16 3, .bool true]) ∧ w' = w := by
  go_enter Safg.func22, Safg.ntmps22
  go_wp2
  refine bodyPost_ret (v := .tuple #[.int .u8 2, .int .u8 1, .int .u16 3, .bool true]) ?_ rfl ⟨rfl, rfl⟩
  simp [results, Safg.results22]
set_option maxRecDepth 100000 in
set_option maxHeartbeats 2000000 in
theorem info_29 (w : World) : Calls Safg.prog 22 #[.int .u8 29] w fun e w' => e = .returned (.tuple #[.int .u8 2, .int .u8 1, .int .u16 3, .bool true]) ∧ w' = w := by
  go_enter Safg.func22, Safg.ntmps22
  go_wp2
  refine bodyPost_ret (v := .tuple #[.int .u8 2, .int .u8 1, .int .u16 3, .bool true]) ?_ rfl ⟨rfl, rfl⟩
  simp [results, Safg.results22]
/-- The arithmetic instructions. -/
def AluOp (o : Nat) : Prop := (1 ≤ o ∧ o ≤ 11) ∨ (16 ≤ o ∧ o ≤ 29)
def takesN (o : Nat) : Nat := if o = 8 ∨ o = 9 then 3 else if o = 21 ∨ o = 25 then 1 else 2
def gasN (o : Nat) : Nat := if o = 8 ∨ o = 9 then 8 else if o = 10 then 10 else if o = 2 ∨ o = 4 ∨ o = 5 ∨ o = 6 ∨ o = 7 ∨ o = 11 then 5 else 3
theorem AluOp.cases {o : Nat} (h : AluOp o) : o = 1 ∨ o = 2 ∨ o = 3 ∨ o = 4 ∨ o = 5 ∨ o = 6 ∨ o = 7 ∨ o = 8 ∨ o = 9 ∨ o = 10 ∨ o = 11 ∨ o = 16 ∨ o = 17 ∨ o = 18 ∨ o = 19 ∨ o = 20 ∨ o = 21 ∨ o = 22 ∨ o = 23 ∨ o = 24 ∨ o = 25 ∨ o = 26 ∨ o = 27 ∨ o = 28 ∨ o = 29 := by
  unfold AluOp at h
  omega
theorem info_any (w : World) (o : Nat) (h : AluOp o) : Calls Safg.prog 22 #[.int .u8 (o : Int)] w fun e w' => e = .returned (.tuple #[.int .u8 (takesN o : Int), .int .u8 1, .int .u16 (gasN o : Int), .bool true]) ∧ w' = w := by
  rcases h.cases with rfl | rfl | rfl | rfl | rfl | rfl | rfl | rfl | rfl | rfl | rfl | rfl | rfl | rfl | rfl | rfl | rfl | rfl | rfl | rfl | rfl | rfl | rfl | rfl | rfl
  · exact info_1 w
  · exact info_2 w
  · exact info_3 w
  · exact info_4 w
  · exact info_5 w
  · exact info_6 w
  · exact info_7 w
  · exact info_8 w
  · exact info_9 w
  · exact info_10 w
  · exact info_11 w
  · exact info_16 w
  · exact info_17 w
  · exact info_18 w
  · exact info_19 w
  · exact info_20 w
  · exact info_21 w
  · exact info_22 w
  · exact info_23 w
  · exact info_24 w
  · exact info_25 w
  · exact info_26 w
  · exact info_27 w
  · exact info_28 w
  · exact info_29 w
end Go.Proofs.YgcsafGreat
