/-
  'u256': Slt (216), Sgt (217).
-/
import Derived.Test.YgcsafGreatWord4
import Derived.Deep.RegionHeld3
import Derived.Deep.CutRange
import Derived.Deep.DeepCutAuto
namespace Go.Proofs.YgcsafGreat
open Go.RowKit
set_option linter.unusedVariables false
set_option linter.unusedSimpArgs false

theorem Turn.drew_below (w : World) : Below w.heap.size w w.drew := (Turn.drew [] w).below (Nat.le_refl _) (by simp)
theorem keep_cell {w w' : World} {B g i : Nat} {v : Value} (hb : Below B w w') (hg : g < B) (h : w.cell? ⟨g, i, none⟩ = some v) : w'.cell? ⟨g, i, none⟩ = some v := by
  rw [hb.cell (p := ⟨g, i, none⟩) hg]; exact h
theorem keepW1 {w0 w' w4 : World} {g0 : Nat} {a0 : Wd4} (B0 : g0 < w0.heap.size) (b4 : Below w'.heap.size w' w4) (h : Below w0.heap.size w0 w' ∧ w'.cell? ⟨g0, 0, none⟩ = some (.int .u64 (a0.x0 : Int)) ∧ w'.cell? ⟨g0, 1, none⟩ = some (.int .u64 (a0.x1 : Int)) ∧ w'.cell? ⟨g0, 2, none⟩ = some (.int .u64 (a0.x2 : Int)) ∧ w'.cell? ⟨g0, 3, none⟩ = some (.int .u64 (a0.x3 : Int))) :
    Below w0.heap.size w0 w4 ∧ w4.cell? ⟨g0, 0, none⟩ = some (.int .u64 (a0.x0 : Int)) ∧ w4.cell? ⟨g0, 1, none⟩ = some (.int .u64 (a0.x1 : Int)) ∧ w4.cell? ⟨g0, 2, none⟩ = some (.int .u64 (a0.x2 : Int)) ∧ w4.cell? ⟨g0, 3, none⟩ = some (.int .u64 (a0.x3 : Int)) := by
  obtain ⟨h0, h1, h2, h3, h4⟩ := h
  exact ⟨h0.trans (b4.mono h0.size), keep_cell b4 (Nat.lt_of_lt_of_le B0 h0.size) h1, keep_cell b4 (Nat.lt_of_lt_of_le B0 h0.size) h2, keep_cell b4 (Nat.lt_of_lt_of_le B0 h0.size) h3, keep_cell b4 (Nat.lt_of_lt_of_le B0 h0.size) h4⟩
theorem keepW2 {w0 w' w4 : World} {g0 g1 : Nat} {a0 a1 : Wd4} (B0 : g0 < w0.heap.size) (B1 : g1 < w0.heap.size) (b4 : Below w'.heap.size w' w4) (h : Below w0.heap.size w0 w' ∧ w'.cell? ⟨g0, 0, none⟩ = some (.int .u64 (a0.x0 : Int)) ∧ w'.cell? ⟨g0, 1, none⟩ = some (.int .u64 (a0.x1 : Int)) ∧ w'.cell? ⟨g0, 2, none⟩ = some (.int .u64 (a0.x2 : Int)) ∧ w'.cell? ⟨g0, 3, none⟩ = some (.int .u64 (a0.x3 : Int)) ∧ w'.cell? ⟨g1, 0, none⟩ = some (.int .u64 (a1.x0 : Int)) ∧ w'.cell? ⟨g1, 1, none⟩ = some (.int .u64 (a1.x1 : Int)) ∧ w'.cell? ⟨g1, 2, none⟩ = some (.int .u64 (a1.x2 : Int)) ∧ w'.cell? ⟨g1, 3, none⟩ = some (.int .u64 (a1.x3 : Int))) :
    Below w0.heap.size w0 w4 ∧ w4.cell? ⟨g0, 0, none⟩ = some (.int .u64 (a0.x0 : Int)) ∧ w4.cell? ⟨g0, 1, none⟩ = some (.int .u64 (a0.x1 : Int)) ∧ w4.cell? ⟨g0, 2, none⟩ = some (.int .u64 (a0.x2 : Int)) ∧ w4.cell? ⟨g0, 3, none⟩ = some (.int .u64 (a0.x3 : Int)) ∧ w4.cell? ⟨g1, 0, none⟩ = some (.int .u64 (a1.x0 : Int)) ∧ w4.cell? ⟨g1, 1, none⟩ = some (.int .u64 (a1.x1 : Int)) ∧ w4.cell? ⟨g1, 2, none⟩ = some (.int .u64 (a1.x2 : Int)) ∧ w4.cell? ⟨g1, 3, none⟩ = some (.int .u64 (a1.x3 : Int)) := by
  obtain ⟨h0, h1, h2, h3, h4, h5, h6, h7, h8⟩ := h
  exact ⟨h0.trans (b4.mono h0.size), keep_cell b4 (Nat.lt_of_lt_of_le B0 h0.size) h1, keep_cell b4 (Nat.lt_of_lt_of_le B0 h0.size) h2, keep_cell b4 (Nat.lt_of_lt_of_le B0 h0.size) h3, keep_cell b4 (Nat.lt_of_lt_of_le B0 h0.size) h4, keep_cell b4 (Nat.lt_of_lt_of_le B1 h0.size) h5, keep_cell b4 (Nat.lt_of_lt_of_le B1 h0.size) h6, keep_cell b4 (Nat.lt_of_lt_of_le B1 h0.size) h7, keep_cell b4 (Nat.lt_of_lt_of_le B1 h0.size) h8⟩
theorem keepW3 {w0 w' w4 : World} {g0 g1 g2 : Nat} {a0 a1 a2 : Wd4} (B0 : g0 < w0.heap.size) (B1 : g1 < w0.heap.size) (B2 : g2 < w0.heap.size) (b4 : Below w'.heap.size w' w4) (h : Below w0.heap.size w0 w' ∧ w'.cell? ⟨g0, 0, none⟩ = some (.int .u64 (a0.x0 : Int)) ∧ w'.cell? ⟨g0, 1, none⟩ = some (.int .u64 (a0.x1 : Int)) ∧ w'.cell? ⟨g0, 2, none⟩ = some (.int .u64 (a0.x2 : Int)) ∧ w'.cell? ⟨g0, 3, none⟩ = some (.int .u64 (a0.x3 : Int)) ∧ w'.cell? ⟨g1, 0, none⟩ = some (.int .u64 (a1.x0 : Int)) ∧ w'.cell? ⟨g1, 1, none⟩ = some (.int .u64 (a1.x1 : Int)) ∧ w'.cell? ⟨g1, 2, none⟩ = some (.int .u64 (a1.x2 : Int)) ∧ w'.cell? ⟨g1, 3, none⟩ = some (.int .u64 (a1.x3 : Int)) ∧ w'.cell? ⟨g2, 0, none⟩ = some (.int .u64 (a2.x0 : Int)) ∧ w'.cell? ⟨g2, 1, none⟩ = some (.int .u64 (a2.x1 : Int)) ∧ w'.cell? ⟨g2, 2, none⟩ = some (.int .u64 (a2.x2 : Int)) ∧ w'.cell? ⟨g2, 3, none⟩ = some (.int .u64 (a2.x3 : Int))) :
    Below w0.heap.size w0 w4 ∧ w4.cell? ⟨g0, 0, none⟩ = some (.int .u64 (a0.x0 : Int)) ∧ w4.cell? ⟨g0, 1, none⟩ = some (.int .u64 (a0.x1 : Int)) ∧ w4.cell? ⟨g0, 2, none⟩ = some (.int .u64 (a0.x2 : Int)) ∧ w4.cell? ⟨g0, 3, none⟩ = some (.int .u64 (a0.x3 : Int)) ∧ w4.cell? ⟨g1, 0, none⟩ = some (.int .u64 (a1.x0 : Int)) ∧ w4.cell? ⟨g1, 1, none⟩ = some (.int .u64 (a1.x1 : Int)) ∧ w4.cell? ⟨g1, 2, none⟩ = some (.int .u64 (a1.x2 : Int)) ∧ w4.cell? ⟨g1, 3, none⟩ = some (.int .u64 (a1.x3 : Int)) ∧ w4.cell? ⟨g2, 0, none⟩ = some (.int .u64 (a2.x0 : Int)) ∧ w4.cell? ⟨g2, 1, none⟩ = some (.int .u64 (a2.x1 : Int)) ∧ w4.cell? ⟨g2, 2, none⟩ = some (.int .u64 (a2.x2 : Int)) ∧ w4.cell? ⟨g2, 3, none⟩ = some (.int .u64 (a2.x3 : Int)) := by
  obtain ⟨h0, h1, h2, h3, h4, h5, h6, h7, h8, h9, h10, h11, h12⟩ := h
  exact ⟨h0.trans (b4.mono h0.size), keep_cell b4 (Nat.lt_of_lt_of_le B0 h0.size) h1, keep_cell b4 (Nat.lt_of_lt_of_le B0 h0.size) h2, keep_cell b4 (Nat.lt_of_lt_of_le B0 h0.size) h3, keep_cell b4 (Nat.lt_of_lt_of_le B0 h0.size) h4, keep_cell b4 (Nat.lt_of_lt_of_le B1 h0.size) h5, keep_cell b4 (Nat.lt_of_lt_of_le B1 h0.size) h6, keep_cell b4 (Nat.lt_of_lt_of_le B1 h0.size) h7, keep_cell b4 (Nat.lt_of_lt_of_le B1 h0.size) h8, keep_cell b4 (Nat.lt_of_lt_of_le B2 h0.size) h9, keep_cell b4 (Nat.lt_of_lt_of_le B2 h0.size) h10, keep_cell b4 (Nat.lt_of_lt_of_le B2 h0.size) h11, keep_cell b4 (Nat.lt_of_lt_of_le B2 h0.size) h12⟩

set_option maxRecDepth 100000 in
set_option maxHeartbeats 4000000 in
theorem slt_any (w : World) (a b : Wd4) (ha : a.Ok) (hb : b.Ok) :
    Calls Safg.prog 216 #[a.v, b.v] w fun e w' => e = .returned (.bool (sltW a.val b.val)) ∧ Below w.heap.size w w' := by
  have HS : Hid (sltW a.val b.val = (if isNegW a.val != isNegW b.val then isNegW a.val else decide (a.val < b.val))) := rfl
  have HLT := fun w => uLt_any w a b ha hb
  have HNA := fun w => negative_nat w a ha
  have HNB := fun w => negative_nat w b hb
  generalize sltW a.val b.val = z at *
  generalize decide (a.val < b.val) = t at *
  generalize isNegW a.val = p at *
  generalize isNegW b.val = q at *
  go_enter Safg.func216, Safg.ntmps216
  go_upto_region 1 with (first | (refine wpList_box_agg rfl 65 (.tmp 0) rfl a.cells rfl ?_; intro w1 g2 hg2 k2 c2) | (refine wpList_box_agg rfl 65 (.tmp 1) rfl b.cells rfl ?_; intro w2 g3 hg3 k3 c3))
  have Kg2 : Blk w2 g2 a.cells := k2.below c3 k2.lt
  have Kg3 : Blk w2 g3 b.cells := k3
  have Bg2 := Kg2.lt
  have Bg3 := Kg3.lt
  have b02 : Below w.heap.size w w2 := c2.trans (c3.mono c2.size)
  go_cut [9] (fun c wx => c = .bool (p != q) ∧ Below w2.heap.size w2 wx)
  case first =>
    go_region_held3 (fun w' => Below w2.heap.size w2 w' ∧ w'.cell? ⟨g2, 0, none⟩ = some (.int .u64 (a.x0 : Int)) ∧ w'.cell? ⟨g2, 1, none⟩ = some (.int .u64 (a.x1 : Int)) ∧ w'.cell? ⟨g2, 2, none⟩ = some (.int .u64 (a.x2 : Int)) ∧ w'.cell? ⟨g2, 3, none⟩ = some (.int .u64 (a.x3 : Int)) ∧ w'.cell? ⟨g3, 0, none⟩ = some (.int .u64 (b.x0 : Int)) ∧ w'.cell? ⟨g3, 1, none⟩ = some (.int .u64 (b.x1 : Int)) ∧ w'.cell? ⟨g3, 2, none⟩ = some (.int .u64 (b.x2 : Int)) ∧ w'.cell? ⟨g3, 3, none⟩ = some (.int .u64 (b.x3 : Int))) (first | exact ⟨Turn.drew_below _, Kg2.get (j := 0) rfl, Kg2.get (j := 1) rfl, Kg2.get (j := 2) rfl, Kg2.get (j := 3) rfl, Kg3.get (j := 0) rfl, Kg3.get (j := 1) rfl, Kg3.get (j := 2) rfl, Kg3.get (j := 3) rfl⟩ | exact keepW2 Bg2 Bg3 b4 (by assumption)) (first | (go_at_call 331; first | (refine (HNA _).mono ?_; rintro e w4 ⟨rfl, b4⟩) | (refine (HNB _).mono ?_; rintro e w4 ⟨rfl, b4⟩)))
    all_goals (go_wp2_with fail; go_meet; rename_i hh; exact ⟨rfl, hh.1⟩)
  case rest =>
    obtain ⟨rfl, bx⟩ := hcut
    have r2 : Blk wc g2 a.cells := Kg2.below bx Bg2
    have r3 : Blk wc g3 b.cells := Kg3.below bx Bg3
    have bxx := b02.trans (bx.mono b02.size)
    cases p <;> cases q
    all_goals
      go_wp2_with (first | (refine wpList_load_mid rfl 65 (.tmp 2) rfl g2 0 rfl _ _ r2.cell Safg.under65 rfl Safg.size65 ?_) | (refine wpList_load_mid rfl 65 (.tmp 3) rfl g3 0 rfl _ _ r3.cell Safg.under65 rfl Safg.size65 ?_) | (go_at_call 331; refine (HNA _).mono ?_; rintro e w5 ⟨rfl, b5⟩) | (go_at_call 164; refine (HLT _).mono ?_; rintro e w5 ⟨rfl, b5⟩))
      go_ret
      exact ⟨by rw [HS.out]; rfl, bxx.trans (b5.mono bxx.size)⟩

set_option maxRecDepth 100000 in
set_option maxHeartbeats 1000000 in
theorem sgt_any (w : World) (a b : Wd4) (ha : a.Ok) (hb : b.Ok) :
    Calls Safg.prog 217 #[a.v, b.v] w fun e w' => e = .returned (.bool (sltW b.val a.val)) ∧ Below w.heap.size w w' := by
  have H := fun w => slt_any w b a hb ha
  generalize sltW b.val a.val = z at *
  go_enter Safg.func217, Safg.ntmps217
  go_upto_region 1 with (first | (refine wpList_box_agg rfl 65 (.tmp 0) rfl a.cells rfl ?_; intro w1 g2 hg2 k2 c2) | (refine wpList_box_agg rfl 65 (.tmp 1) rfl b.cells rfl ?_; intro w2 g3 hg3 k3 c3))
  have k2' := k2.below c3 k2.lt
  have b02 : Below w.heap.size w w2 := c2.trans (c3.mono c2.size)
  go_wp2_with (first | (refine wpList_load_mid rfl 65 (.tmp 2) rfl g2 0 rfl _ _ k2'.cell Safg.under65 rfl Safg.size65 ?_) | (refine wpList_load_mid rfl 65 (.tmp 3) rfl g3 0 rfl _ _ k3.cell Safg.under65 rfl Safg.size65 ?_) | (go_at_call 216; refine (H _).mono ?_; rintro e w4 ⟨rfl, b4⟩))
  go_ret
  exact ⟨rfl, b02.trans (b4.mono b02.size)⟩
end Go.Proofs.YgcsafGreat
