/-
  'mach.New' (16) of the stage.
-/
import Derived.Test.YgcsafGreatMB
namespace Go.Proofs.YgcsafGreat
open Go.RowKit
set_option linter.unusedVariables false
set_option linter.unusedSimpArgs false

set_option maxRecDepth 1000000 in
theorem mF_2379 (gv : Nat) : mF gv 2379 = .slice none 0 0 := by kernel_rfl
theorem MB.self {w : World} {gm : Nat} {f : Nat → Value} (h : MB w gm f) {k : Nat} (hk : k < 2435) {v : Value} (hv : f k = v) : w.setCell ⟨gm, k, none⟩ v = w := setCell_self (by rw [h.cell k hk, hv])
set_option maxRecDepth 1000000 in
set_option maxHeartbeats 4000000 in
theorem mnew_any (w : World) (gv : Nat) :
    Calls Safg.prog 16 #[.pointer (some ⟨gv, 0, none⟩), .agg envL.toArray] w fun e w' => ∃ gm, e = .returned (.pointer (some ⟨gm, 0, none⟩)) ∧ w.heap.size ≤ gm ∧ MB w' gm (mF gv) ∧ Below w.heap.size w w' := by
  obtain ⟨fs, u53⟩ : ∃ fs, Safg.prog.underlying 53 = some (.struct fs) := ⟨_, rfl⟩
  go_enter Safg.func16, Safg.ntmps16
  go_upto_region 2 with (first | (refine wpList_box_agg rfl 53 (.tmp 1) rfl envL rfl ?_; intro w1 g1 hg1 k1 b1) | (refine wpList_load_agg rfl 53 (.tmp 3) rfl g1 rfl envL k1 fs u53 Safg.size53 ?_) | (refine wpList_build_at rfl 74 _ rfl [(0, .pointer (some ⟨gv, 0, none⟩)), (4, .int .i8 (-1)), (6, .agg envL.toArray)] rfl (mN gv) (built74 gv) ?_) | (refine wpList_box_agg rfl 74 (.tmp 8) rfl (mN gv) rfl ?_; intro w2 gm hg2 k2 b2))
  have m2 := MB.of_blk k2
  have e1 := k1.below b2 k1.lt
  clear k1 k2
  have c1 := m2.cell 2379 (by omega)
  rw [mF_2379] at c1
  have f1 := m2.free 2379
  have s1 := m2.self (by omega) (mF_2379 gv)
  have h1 : w2.cell? ⟨g1, 119, none⟩ = some (.slice none 0 0) := e1.get rfl
  go_wp2
  go_ret
  exact ⟨gm, rfl, Nat.le_trans b1.size hg2, m2, b1.trans (b2.mono b1.size)⟩
end Go.Proofs.YgcsafGreat
