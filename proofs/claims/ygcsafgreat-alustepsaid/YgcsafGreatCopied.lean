/-
  'vault.copied' (157), 'mach.copied' (27), 'engine.copied' (66).
-/
import Derived.Test.YgcsafGreatFind
import Derived.Test.YgcsafGreatNorm
namespace Go.Proofs.YgcsafGreat
open Go.RowKit
set_option linter.unusedVariables false
set_option linter.unusedSimpArgs false

set_option maxRecDepth 100000 in
set_option maxHeartbeats 1000000 in
theorem vcopied_nil (w : World) : Calls Safg.prog 157 #[.slice none 0 0] w fun e w' => e = .returned (.slice none 0 0) ∧ w' = w := by
  go_enter Safg.func157, Safg.ntmps157
  go_wp2
  go_ret
  exact ⟨rfl, rfl⟩
set_option maxRecDepth 100000 in
set_option maxHeartbeats 1000000 in
theorem vcopied_any (w : World) (a : Option Addr) (n c : Nat) (L : List Nat) (h : Rd w a n L) (hn : 0 < n) (hm : n ≤ 65536) :
    Calls Safg.prog 157 #[.slice a n c] w fun e w' => ∃ g, e = .returned (.slice (some ⟨g, 0, none⟩) n n) ∧ w.heap.size ≤ g ∧ Own w' g L ∧ Below w.heap.size w w' := by
  have hl := h.length
  have t1 : ((n : Int) == 0) = false := by simp; omega
  go_enter Safg.func157, Safg.ntmps157
  go_upto_region 4 with (refine wpList_make_bytes _ rfl _ _ 26 rfl Safg.underlying26 .i64 .i64 _ _ n rfl rfl rfl rfl (by omega) ?_; intro w1 g hg o1 b1)
  go_wp2_with (refine wpList_copy_bytes rfl _ _ 26 26 rfl Safg.underlying26 g n n c a rfl rfl (List.replicate n 0) L (by simp) o1 (h.below b1) hn ?_; intro w2 o2 n2)
  go_ret
  exact ⟨g, rfl, hg, o2, b1.trans (n2.below hg)⟩

set_option maxRecDepth 100000 in
set_option maxHeartbeats 1000000 in
theorem mcopied_nil (w : World) : Calls Safg.prog 27 #[.slice none 0 0] w fun e w' => e = .returned (.slice none 0 0) ∧ w' = w := by
  go_enter Safg.func27, Safg.ntmps27
  go_wp2
  go_ret
  exact ⟨rfl, rfl⟩
set_option maxRecDepth 100000 in
set_option maxHeartbeats 1000000 in
theorem mcopied_any (w : World) (a : Option Addr) (n c : Nat) (L : List Nat) (h : Rd w a n L) (hn : 0 < n) (hm : n ≤ 65536) :
    Calls Safg.prog 27 #[.slice a n c] w fun e w' => ∃ g, e = .returned (.slice (some ⟨g, 0, none⟩) n n) ∧ w.heap.size ≤ g ∧ Own w' g L ∧ Below w.heap.size w w' := by
  have hl := h.length
  have t1 : ((n : Int) == 0) = false := by simp; omega
  go_enter Safg.func27, Safg.ntmps27
  go_upto_region 4 with (refine wpList_make_bytes _ rfl _ _ 26 rfl Safg.underlying26 .i64 .i64 _ _ n rfl rfl rfl rfl (by omega) ?_; intro w1 g hg o1 b1)
  go_wp2_with (refine wpList_copy_bytes rfl _ _ 26 26 rfl Safg.underlying26 g n n c a rfl rfl (List.replicate n 0) L (by simp) o1 (h.below b1) hn ?_; intro w2 o2 n2)
  go_ret
  exact ⟨g, rfl, hg, o2, b1.trans (n2.below hg)⟩

set_option maxRecDepth 100000 in
set_option maxHeartbeats 1000000 in
theorem ecopied_nil (w : World) : Calls Safg.prog 66 #[.slice none 0 0] w fun e w' => e = .returned (.slice none 0 0) ∧ w' = w := by
  go_enter Safg.func66, Safg.ntmps66
  go_wp2
  go_ret
  exact ⟨rfl, rfl⟩
set_option maxRecDepth 100000 in
set_option maxHeartbeats 1000000 in
theorem ecopied_any (w : World) (a : Option Addr) (n c : Nat) (L : List Nat) (h : Rd w a n L) (hn : 0 < n) (hm : n ≤ 65536) :
    Calls Safg.prog 66 #[.slice a n c] w fun e w' => ∃ g, e = .returned (.slice (some ⟨g, 0, none⟩) n n) ∧ w.heap.size ≤ g ∧ Own w' g L ∧ Below w.heap.size w w' := by
  have hl := h.length
  have t1 : ((n : Int) == 0) = false := by simp; omega
  go_enter Safg.func66, Safg.ntmps66
  go_upto_region 4 with (refine wpList_make_bytes _ rfl _ _ 26 rfl Safg.underlying26 .i64 .i64 _ _ n rfl rfl rfl rfl (by omega) ?_; intro w1 g hg o1 b1)
  go_wp2_with (refine wpList_copy_bytes rfl _ _ 26 26 rfl Safg.underlying26 g n n c a rfl rfl (List.replicate n 0) L (by simp) o1 (h.below b1) hn ?_; intro w2 o2 n2)
  go_ret
  exact ⟨g, rfl, hg, o2, b1.trans (n2.below hg)⟩
end Go.Proofs.YgcsafGreat
