/-
  mach.Info (22) of the pushes and of the first instructions.
-/
import Derived.Test.YgcsafGreatBase
namespace Go.Proofs.YgcsafGreat
open Go.RowKit
set_option linter.unusedVariables false
set_option linter.unusedSimpArgs false

set_option maxRecDepth 100000 in
set_option maxHeartbeats 2000000 in
theorem info_127 (w : World) : Calls Safg.prog 22 #[.int .u8 127] w fun e w' => e = .returned (.tuple #[.int .u8 0, .int .u8 1, .int .u16 3, .bool true]) ∧ w' = w := by
  go_enter Safg.func22, Safg.ntmps22
  go_wp2
  refine bodyPost_ret (v := .tuple #[.int .u8 0, .int .u8 1, .int .u16 3, .bool true]) ?_ rfl ⟨rfl, rfl⟩
  simp [results, Safg.results22]
set_option maxRecDepth 100000 in
set_option maxHeartbeats 2000000 in
theorem info_1 (w : World) : Calls Safg.prog 22 #[.int .u8 1] w fun e w' => e = .returned (.tuple #[.int .u8 2, .int .u8 1, .int .u16 3, .bool true]) ∧ w' = w := by
  go_enter Safg.func22, Safg.ntmps22
  go_wp2
  refine bodyPost_ret (v := .tuple #[.int .u8 2, .int .u8 1, .int .u16 3, .bool true]) ?_ rfl ⟨rfl, rfl⟩
  simp [results, Safg.results22]
set_option maxRecDepth 100000 in
set_option maxHeartbeats 2000000 in
theorem info_2 (w : World) : Calls Safg.prog 22 #[.int .u8 2] w fun e w' => e = .returned (.tuple #[.int .u8 2, .int .u8 1, .int .u16 5, .bool true]) ∧ w' = w := by
  go_enter Safg.func22, Safg.ntmps22
  go_wp2
  refine bodyPost_ret (v := .tuple #[.int .u8 2, .int .u8 1, .int .u16 5, .bool true]) ?_ rfl ⟨rfl, rfl⟩
  simp [results, Safg.results22]
set_option maxRecDepth 100000 in
set_option maxHeartbeats 2000000 in
theorem info_3 (w : World) : Calls Safg.prog 22 #[.int .u8 3] w fun e w' => e = .returned (.tuple #[.int .u8 2, .int .u8 1, .int .u16 3, .bool true]) ∧ w' = w := by
  go_enter Safg.func22, Safg.ntmps22
  go_wp2
  refine bodyPost_ret (v := .tuple #[.int .u8 2, .int .u8 1, .int .u16 3, .bool true]) ?_ rfl ⟨rfl, rfl⟩
  simp [results, Safg.results22]
set_option maxRecDepth 100000 in
set_option maxHeartbeats 2000000 in
theorem info_4 (w : World) : Calls Safg.prog 22 #[.int .u8 4] w fun e w' => e = .returned (.tuple #[.int .u8 2, .int .u8 1, .int .u16 5, .bool true]) ∧ w' = w := by
  go_enter Safg.func22, Safg.ntmps22
  go_wp2
  refine bodyPost_ret (v := .tuple #[.int .u8 2, .int .u8 1, .int .u16 5, .bool true]) ?_ rfl ⟨rfl, rfl⟩
  simp [results, Safg.results22]
set_option maxRecDepth 100000 in
set_option maxHeartbeats 2000000 in
theorem info_5 (w : World) : Calls Safg.prog 22 #[.int .u8 5] w fun e w' => e = .returned (.tuple #[.int .u8 2, .int .u8 1, .int .u16 5, .bool true]) ∧ w' = w := by
  go_enter Safg.func22, Safg.ntmps22
  go_wp2
  refine bodyPost_ret (v := .tuple #[.int .u8 2, .int .u8 1, .int .u16 5, .bool true]) ?_ rfl ⟨rfl, rfl⟩
  simp [results, Safg.results22]
set_option maxRecDepth 100000 in
set_option maxHeartbeats 2000000 in
theorem info_6 (w : World) : Calls Safg.prog 22 #[.int .u8 6] w fun e w' => e = .returned (.tuple #[.int .u8 2, .int .u8 1, .int .u16 5, .bool true]) ∧ w' = w := by
  go_enter Safg.func22, Safg.ntmps22
  go_wp2
  refine bodyPost_ret (v := .tuple #[.int .u8 2, .int .u8 1, .int .u16 5, .bool true]) ?_ rfl ⟨rfl, rfl⟩
  simp [results, Safg.results22]
set_option maxRecDepth 100000 in
set_option maxHeartbeats 2000000 in
theorem info_7 (w : World) : Calls Safg.prog 22 #[.int .u8 7] w fun e w' => e = .returned (.tuple #[.int .u8 2, .int .u8 1, .int .u16 5, .bool true]) ∧ w' = w := by
  go_enter Safg.func22, Safg.ntmps22
  go_wp2
  refine bodyPost_ret (v := .tuple #[.int .u8 2, .int .u8 1, .int .u16 5, .bool true]) ?_ rfl ⟨rfl, rfl⟩
  simp [results, Safg.results22]
set_option maxRecDepth 100000 in
set_option maxHeartbeats 2000000 in
theorem info_8 (w : World) : Calls Safg.prog 22 #[.int .u8 8] w fun e w' => e = .returned (.tuple #[.int .u8 3, .int .u8 1, .int .u16 8, .bool true]) ∧ w' = w := by
  go_enter Safg.func22, Safg.ntmps22
  go_wp2
  refine bodyPost_ret (v := .tuple #[.int .u8 3, .int .u8 1, .int .u16 8, .bool true]) ?_ rfl ⟨rfl, rfl⟩
  simp [results, Safg.results22]
set_option maxRecDepth 100000 in
set_option maxHeartbeats 2000000 in
theorem info_9 (w : World) : Calls Safg.prog 22 #[.int .u8 9] w fun e w' => e = .returned (.tuple #[.int .u8 3, .int .u8 1, .int .u16 8, .bool true]) ∧ w' = w := by
  go_enter Safg.func22, Safg.ntmps22
  go_wp2
  refine bodyPost_ret (v := .tuple #[.int .u8 3, .int .u8 1, .int .u16 8, .bool true]) ?_ rfl ⟨rfl, rfl⟩
  simp [results, Safg.results22]
set_option maxRecDepth 100000 in
set_option maxHeartbeats 2000000 in
theorem info_10 (w : World) : Calls Safg.prog 22 #[.int .u8 10] w fun e w' => e = .returned (.tuple #[.int .u8 2, .int .u8 1, .int .u16 10, .bool true]) ∧ w' = w := by
  go_enter Safg.func22, Safg.ntmps22
  go_wp2
  refine bodyPost_ret (v := .tuple #[.int .u8 2, .int .u8 1, .int .u16 10, .bool true]) ?_ rfl ⟨rfl, rfl⟩
  simp [results, Safg.results22]
set_option maxRecDepth 100000 in
set_option maxHeartbeats 2000000 in
theorem info_11 (w : World) : Calls Safg.prog 22 #[.int .u8 11] w fun e w' => e = .returned (.tuple #[.int .u8 2, .int .u8 1, .int .u16 5, .bool true]) ∧ w' = w := by
  go_enter Safg.func22, Safg.ntmps22
  go_wp2
  refine bodyPost_ret (v := .tuple #[.int .u8 2, .int .u8 1, .int .u16 5, .bool true]) ?_ rfl ⟨rfl, rfl⟩
  simp [results, Safg.results22]
end Go.Proofs.YgcsafGreat
