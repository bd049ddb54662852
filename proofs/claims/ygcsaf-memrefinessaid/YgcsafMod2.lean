/-
  The model's 'has' (97), 'Check' (75), 'Read' (73), 'put' (96).
-/
import Derived.Test.YgcsafMod
import Derived.BigRegion
namespace Go.Proofs.Ygcsaf
open Go.RowKit
set_option linter.unusedVariables false
set_option linter.unusedSimpArgs false

theorem mCheck (w : World) (p : Option Addr) : Calls Safg.prog 75 #[.pointer p] w fun e w' => e = .returned (.bool true) ∧ w' = w := by
  go_enter Safg.func75, Safg.ntmps75
  go_wp2
  go_ret
  exact ⟨rfl, rfl⟩

set_option maxHeartbeats 1000000 in
theorem mHas (w : World) (B T : Nat) (col : Nat → Nat) (fv : Value) (fvs : List Value) (F : List (List Nat)) (h : Md B T w col fv fvs F) (hF : FOk F) (off n : Nat) (ho : off < 4294967296) (hn : n < 4294967296) :
    Calls Safg.prog 97 #[.pointer (some ⟨T, 10, none⟩), .int .u32 (off : Int), .int .u32 (n : Int)] w fun e w' => e = .returned (.bool (hasF F off n)) ∧ Same w w' := by
  rcases split_last F with rfl | ⟨G, t, rfl⟩
  · obtain ⟨fa, fc, rfl⟩ := h.none_
    have c10 := h.c10
    clear h
    go_enter Safg.func97, Safg.ntmps97
    go_wp2
    go_ret
    exact ⟨rfl, Same.refl _⟩
  · have HL := mLen w B T col fv fvs _ h hF
    obtain ⟨gf, cap, ta, tc, gt, m⟩ := h.top
    have c10 := m.c10
    have ht := topF_len hF
    rw [topF_app] at ht HL
    obtain ⟨b, HB⟩ : ∃ b, Hid (hasF (G ++ [t]) off n = b) := ⟨_, rfl⟩
    rw [HB.out]
    generalize hk : G.length = k at c10
    generalize hn' : t.length = q at *
    have t1 : decide ((off : Int) + (n : Int) ≤ (q : Int)) = b := by
      rw [← HB.out, hasF_app, hn']
      congr 1
      apply propext
      omega
    have t0 : decide (0 < (k : Int) + 1) = true := decide_eq_true (by omega)
    clear h hF m hk hn'
    go_enter Safg.func97, Safg.ntmps97
    go_wp2_with (go_at_call 68; refine HL.mono ?_; rintro e w1 ⟨rfl, s1⟩)
    go_ret
    exact ⟨rfl, s1⟩

theorem hasF_true {F : List (List Nat)} {off n : Nat} (h : hasF F off n = true) : ∃ G t, F = G ++ [t] ∧ off + n ≤ t.length := by
  rcases split_last F with rfl | ⟨G, t, rfl⟩
  · cases h
  · exact ⟨G, t, rfl, by rw [hasF_app] at h; exact of_decide_eq_true h⟩
end Go.Proofs.Ygcsaf
