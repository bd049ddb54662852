import Derived.Test.YgcsafGreatBase
namespace Go.Proofs.YgcsafGreat
open Go.RowKit
set_option linter.unusedVariables false
set_option linter.unusedSimpArgs false

set_option maxHeartbeats 400000 in
theorem trim_any (w : World) (a : Option Addr) (len cap : Nat) (l : List Nat) (h : Rd w a len l) (hc : len ≤ cap) (hm : cap ≤ 9223372036854775807) :
    Calls Safg.prog 96 #[.slice a len cap] w fun e w' => e = .returned (.slice a (D.trimL l).length (D.trimL l).length) ∧ w' = w := by
  have hl := h.length
  go_enter Safg.func96, Safg.ntmps96
  go_wp2
  go_loop [3] (fun k => ∃ n : Nat, n ≤ len ∧ k = .int .i64 n ∧ ∀ j, n ≤ j → j < len → l.getD j 0 = 0) (fun k => (intOf k).toNat)
  case atStart => exact ⟨len, Nat.le_refl _, rfl, fun j h1 h2 => absurd h1 (by omega)⟩
  case round =>
    obtain ⟨n, hn, rfl, hz⟩ := hrel
    have HZ : Hid (∀ j, n ≤ j → j < len → l.getD j 0 = 0) := hz
    clear hz
    by_cases h0 : n = 0
    · subst h0
      go_wp2
      go_ret
      have e := D.trimL_of (l := l) (k := 0) (Nat.zero_le _) (fun j h1 h2 => HZ.out j h1 (by omega)) (.inl rfl)
      exact ⟨ret_slice e.symm e.symm, rfl⟩
    · obtain ⟨m, rfl⟩ : ∃ m, n = m + 1 := ⟨n - 1, by omega⟩
      obtain ⟨b, off, rfl, hb, hcell⟩ := h.cell m (by omega)
      by_cases hd : l.getD m 0 = 0
      · rw [hd] at hcell
        go_wp2
        go_round
        case rel => 
          refine ⟨m, by omega, by go_num, fun j h1 h2 => ?_⟩
          by_cases hj : j = m
          · rw [hj]; exact hd
          · exact HZ.out j (by omega) h2
        case measure => simp [intOf]
      · have HE : Hid ((D.trimL l).length = m + 1) := D.trimL_of (l := l) (k := m + 1) (by omega) (fun j h1 h2 => HZ.out j h1 (by omega)) (.inr (by simpa using hd))
        generalize hx : l.getD m 0 = x at hcell hd
        have HX : Hid (l.getD m 0 = x) := hx
        clear hx
        have hd' : (((x : Nat) : Int) == 0) = false := by simpa using hd
        go_wp2
        go_ret
        exact ⟨ret_slice HE.out.symm HE.out.symm, rfl⟩
