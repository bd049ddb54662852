import Derived.Test.YgcsafFromBE
namespace Go.Proofs.Ygcsaf
open Go.RowKit
set_option linter.unusedVariables false
set_option linter.unusedSimpArgs false

set_option maxHeartbeats 400000 in
theorem normal_true (w : World) (a : Option Addr) (cap : Nat) (l : List Nat) (h : IsNat w a l) (hc : l.length ≤ cap) (hm : cap ≤ 281474976710656) :
    Calls Safg.prog 87 #[.slice a l.length cap] w fun e w' => e = .returned (.bool true) ∧ w' = w := by
  by_cases hl : l = []
  · have q30 := eqnil30
    have := h.nil hl
    subst hl this
    go_enter Safg.func87, Safg.ntmps87
    go_wp2
    go_ret
    exact ⟨rfl, rfl⟩
  · have hpos : 0 < l.length := List.length_pos_iff.2 hl
    obtain ⟨b, off, rfl, hb, hcell⟩ := h.rd.cell (l.length - 1) (by omega)
    have hn := h.nm hl
    generalize l.getD (l.length - 1) 0 = x at hcell hn
    generalize l.length = n at *
    have hx : (((x : Nat) : Int) == 0) = false := by simpa using hn
    go_enter Safg.func87, Safg.ntmps87
    go_wp2
    go_ret
    exact ⟨ret_bool (by simp [hn]), rfl⟩
end Go.Proofs.Ygcsaf
