/-
  A drawn region's end, named once for all its orders.
-/
import Derived.Test.YgcsafGreatVecS
namespace Go.Proofs.YgcsafGreat
open Go.RowKit
set_option linter.unusedVariables false

/-- It ends normally, and R holds. -/
def NormQ (R : Act → World → Prop) : Exit → Act → World → Prop
  | .normal, a, w => R a w
  | _, _, _ => False
theorem NormQ.mk {R : Act → World → Prop} {a : Act} {w : World} (h : R a w) : NormQ R .normal a w := h
theorem wpOp_swapQ {P : Program} {ops : Array Oper} {Q Q' : Exit → Act → World → Prop} (hq : ∀ c a w, Q' (.panic c) a w → Q (.panic c) a w) (ho : LetsOut Q' → LetsOut Q) {i : Nat} {K : Act → World → Prop} {a : Act} {w : World} (h : wpOp P ops Q' i K a w) : wpOp P ops Q i K a w := by
  unfold wpOp at *
  split
  · rename_i hn
    simp only [hn] at h
    exact h
  · rename_i o hs
    simp only [hs] at h
    split
    · rename_i hw
      simp only [hw, if_true] at h
      exact h.imp (wp_swapQ hq ho) (fun h => ⟨h.1, ho h.2⟩)
    · rename_i hw
      simpa [hw] using h
theorem wpAnyH_swapQ {P : Program} {md : Region.Mode} {ops : Array Oper} {Q Q' : Exit → Act → World → Prop} {S : World → Prop} (hn : ∀ a w, Q' .normal a w → Q .normal a w) (hq : ∀ c a w, Q' (.panic c) a w → Q (.panic c) a w) (ho : LetsOut Q' → LetsOut Q) :
    ∀ (fuel : Nat) (listed : Array Bool) (a : Act) (w : World), wpAnyH P md ops Q' S fuel listed a w → wpAnyH P md ops Q S fuel listed a w
  | 0, _, _, _, h => ⟨h.1, hn _ _ h.2⟩
  | fuel + 1, _, _, _, h => ⟨fun e => hn _ _ (h.1 e), fun i hi => wpOp_swapQ hq ho (wpOp_mono (fun a' w' h' => ⟨h'.1, wpAnyH_swapQ hn hq ho fuel _ a' w' h'.2⟩) (h.2 i hi))⟩
/-- One block is made on the way. -/
theorem wpAnyH_to1 {P : Program} {md : Region.Mode} {ops : Array Oper} {Q : Exit → Act → World → Prop} {S : World → Prop} (A : Nat → Act) (F : Nat → World → Prop) {fuel : Nat} {listed : Array Bool} {a : Act} {w : World}
    (h : wpAnyH P md ops (NormQ fun a w => ∃ g, a = A g ∧ F g w) S fuel listed a w) (hn : ∀ g w, F g w → Q .normal (A g) w) : wpAnyH P md ops Q S fuel listed a w :=
  wpAnyH_swapQ (fun a w ⟨g, e, hf⟩ => by rw [e]; exact hn g w hf) (fun c a w h => absurd h id) (fun ⟨a, w, h⟩ => absurd h id) _ _ _ _ h
end Go.Proofs.YgcsafGreat
