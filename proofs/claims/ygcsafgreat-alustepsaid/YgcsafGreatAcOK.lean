/-
  'obs.accountOK' (300), the stage's two accounts.
-/
import Derived.Test.YgcsafGreatAddTo
namespace Go.Proofs.YgcsafGreat
open Go.RowKit
set_option linter.unusedVariables false
set_option linter.unusedSimpArgs false

theorem Safg.zero51 : (Safg.prog.info? 51).map (·.zero) = some (some (arrV (List.replicate 32 0))) := by kernel_rfl
theorem Safg.size51 : (Safg.prog.info? 51).map (·.size) = some 32 := by kernel_rfl
theorem Safg.under51 : Safg.prog.underlying 51 = some (.array 32 5) := by kernel_rfl

set_option maxRecDepth 100000 in
set_option maxHeartbeats 2000000 in
/-- An account with a nonce. -/
theorem accountOK_nonce (w : World) (g off n : Nat) (a : Option Addr) (k c : Nat) (hn : n ≠ 0) (hk : k ≤ 256) (c1 : w.cell? ⟨g, off + 20, none⟩ = some (.int .u64 (n : Int))) (c2 : w.cell? ⟨g, off + 53, none⟩ = some (.slice a k c)) (c3 : w.cell? ⟨g, off + 54, none⟩ = some (.slice none 0 0)) :
    Calls Safg.prog 300 #[.pointer (some ⟨g, off, none⟩)] w fun e w' => e = .returned (.bool true) ∧ w' = w := by
  have t1 : ((n : Int) == 0) = false := by simp; omega
  have t2 : decide ((256 : Int) < (k : Int)) = false := decide_eq_false (by omega)
  go_enter Safg.func300, Safg.ntmps300
  go_upto_region 6 with fail
  go_loopw [52] (fun i wr => i = .int .i64 0 ∧ wr = w) (fun _ _ => 0)
  case atStart => exact ⟨rfl, rfl⟩
  case round =>
    obtain ⟨rfl, rfl⟩ := hrel
    go_wp2
    go_ret
    exact ⟨rfl, rfl⟩

set_option maxRecDepth 100000 in
set_option maxHeartbeats 2000000 in
/-- An account with a balance alone. -/
theorem accountOK_balance (w : World) (g off : Nat) (L : List Nat) (hL : L.length = 32) (dL : D.Dig L) (hne : L ≠ List.replicate 32 0) (c1 : w.cell? ⟨g, off + 20, none⟩ = some (.int .u64 0)) (cb : w.rangeAt g (off + 21) (cellsL L)) (c2 : w.cell? ⟨g, off + 53, none⟩ = some (.slice none 0 0)) (c3 : w.cell? ⟨g, off + 54, none⟩ = some (.slice none 0 0)) :
    Calls Safg.prog 300 #[.pointer (some ⟨g, off, none⟩)] w fun e w' => e = .returned (.bool true) ∧ w' = w := by
  have he : decide (L = List.replicate 32 0) = false := decide_eq_false hne
  go_enter Safg.func300, Safg.ntmps300
  go_upto_region 6 with (first | (refine wpList_unguard rfl ?_; refine wpList_load_mid rfl 51 (.tmp 20) rfl g (off + 21) rfl (cellsL L) _ cb Safg.under51 rfl (by rw [cellsL_length, hL]; exact Safg.size51) ?_) | (refine wpList_unguard rfl ?_; refine wpList_build0_arr rfl 51 rfl 32 5 Safg.under51 rfl Safg.zero51 ?_) | (refine wpList_unguard rfl ?_; refine wpList_eql_arr rfl 51 51 (.tmp 21) (.tmp 22) rfl 32 Safg.under51 (by kernel_rfl) L (List.replicate 32 0) rfl rfl dL (D.Dig.replicate _) hL (by simp) ?_; rw [he]))
  go_loopw [52] (fun i wr => i = .int .i64 0 ∧ wr = w) (fun _ _ => 0)
  case atStart => exact ⟨rfl, rfl⟩
  case round =>
    obtain ⟨rfl, rfl⟩ := hrel
    go_wp2
    go_ret
    exact ⟨rfl, rfl⟩
end Go.Proofs.YgcsafGreat
