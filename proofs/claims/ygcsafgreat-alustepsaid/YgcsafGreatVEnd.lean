/-
  'vault': Refund (26), Sizes (53), Snap (180); 'engine.warm' (61).
-/
import Derived.Test.YgcsafGreatPutB
import Derived.Test.YgcsafGreatPutN
import Derived.BigQuiet
namespace Go.Proofs.YgcsafGreat
open Go.RowKit
set_option linter.unusedVariables false
set_option linter.unusedSimpArgs false

set_option maxRecDepth 100000 in
set_option maxHeartbeats 1000000 in
theorem refund_any (B : Nat) (w : World) (gv : Nat) (s : Vst) (hv : VOk B w gv s) :
    Calls Safg.prog 26 #[.pointer (some ⟨gv, 0, none⟩)] w fun e w' => e = .returned (.int .u64 0) ∧ w' = w := by
  have c := hv.cR
  clear hv
  go_enter Safg.func26, Safg.ntmps26
  go_wp2
  go_ret
  exact ⟨rfl, rfl⟩

theorem VOk.setMark {B : Nat} {w : World} {gv : Nat} {s : Vst} (h : VOk B w gv s) {p : Nat} (hp : p < 16384) (v : Int) : VOk B (w.setCell ⟨gv, 8195 + p, none⟩ (.int .i32 v)) gv s := by
  have hc : ∀ o, 8195 + p ≠ o → (w.setCell ⟨gv, 8195 + p, none⟩ (.int .i32 v)).cell? ⟨gv, o, none⟩ = w.cell? ⟨gv, o, none⟩ := fun o ho => cell_off ho
  refine ⟨?_, fun o => ?_, ?_, h.vA.far h.apA _ _, ?_, fun j hj => ?_, ?_, h.vJ.far h.apJ _ _, fun j hj => ?_, ?_, ?_, ?_, h.ok, h.few, h.jfew, h.apA, h.apJ, h.apAJ⟩
  · simp [World.setCell]; exact h.lt
  · rw [World.frozen?_setCell]; exact h.free o
  · rw [hc 0 (by omega)]; exact h.cA
  · rw [hc 1 (by omega)]; exact h.cS
  · rw [hc (2 + j) (by omega)]; exact h.cT j hj
  · rw [hc 8194 (by omega)]; exact h.cJ
  · by_cases e : j = p
    · subst e
      obtain ⟨z, hz⟩ := h.cM j hj
      exact ⟨v, World.cell?_setCell_same _ _ _ hz⟩
    · rw [hc (8195 + j) (by omega)]; exact h.cM j hj
  · rw [hc 24579 (by omega)]; exact h.cN
  · rw [hc 24580 (by omega)]; exact h.cR
  · rw [hc 24581 (by omega)]; exact h.cL
theorem VOk.setNm {B : Nat} {w : World} {gv : Nat} {s : Vst} (h : VOk B w gv s) (n : Nat) : VOk B (w.setCell ⟨gv, 24579, none⟩ (.int .i32 (n : Int))) gv { s with nm := n } := by
  have hc : ∀ o, 24579 ≠ o → (w.setCell ⟨gv, 24579, none⟩ (.int .i32 (n : Int))).cell? ⟨gv, o, none⟩ = w.cell? ⟨gv, o, none⟩ := fun o ho => cell_off ho
  refine ⟨?_, fun o => ?_, ?_, h.vA.far h.apA _ _, ?_, fun j hj => ?_, ?_, h.vJ.far h.apJ _ _, fun j hj => ?_, ?_, ?_, ?_, h.ok, h.few, h.jfew, h.apA, h.apJ, h.apAJ⟩
  · simp [World.setCell]; exact h.lt
  · rw [World.frozen?_setCell]; exact h.free o
  · rw [hc 0 (by omega)]; exact h.cA
  · rw [hc 1 (by omega)]; exact h.cS
  · rw [hc (2 + j) (by omega)]; exact h.cT j hj
  · rw [hc 8194 (by omega)]; exact h.cJ
  · rw [hc (8195 + j) (by omega)]; exact h.cM j hj
  · exact World.cell?_setCell_same _ _ _ h.cN
  · rw [hc 24580 (by omega)]; exact h.cR
  · rw [hc 24581 (by omega)]; exact h.cL

set_option maxRecDepth 100000 in
set_option maxHeartbeats 2000000 in
/-- The first snapshot. -/
theorem snap_any (B : Nat) (w : World) (gv : Nat) (s : Vst) (hv : VOk B w gv s) (hnm : s.nm = 0) :
    Calls Safg.prog 180 #[.pointer (some ⟨gv, 0, none⟩)] w fun e w' => e = .returned (.int .i32 0) ∧ VOk B w' gv { s with nm := 1 } ∧ Turn [gv] w w' := by
  have cN := hv.cN
  rw [hnm] at cN
  have cN : w.cell? ⟨gv, 24579, none⟩ = some (.int .i32 0) := cN
  obtain ⟨ja, jc, hjv⟩ := hv.jslice
  have cJ := hv.cJ
  have hj := hv.jfew
  rw [hjv] at cJ
  obtain ⟨z, cM⟩ := hv.cM 0 (by omega)
  have fM := hv.free 8195
  have fN := hv.free 24579
  have hv1 := hv.setMark (p := 0) (by omega) (s.jn : Int)
  have hv2 := hv1.setNm 1
  have o1 : Only gv w (w.setCell ⟨gv, 8195, none⟩ (.int .i32 (s.jn : Int))) := (Only.refl _ _).setCell _ _
  obtain ⟨jn, hjn⟩ : ∃ j, s.jn = j := ⟨_, rfl⟩
  rw [hjn] at hj cJ o1 hv1 hv2
  clear hjn
  have q1 : IntKind.i32.wrap (jn : Int) = (jn : Int) := by simp [IntKind.wrap, IntKind.bits, IntKind.signed]; omega
  rw [Nat.add_zero] at cM hv1 hv2
  have cN1 : (w.setCell ⟨gv, 8195, none⟩ (.int .i32 (jn : Int))).cell? ⟨gv, 24579, none⟩ = some (.int .i32 0) := by rw [cell_off (by omega)]; exact cN
  have fN1 : (w.setCell ⟨gv, 8195, none⟩ (.int .i32 (jn : Int))).frozen? ⟨gv, 24579, none⟩ = false := hv1.free 24579
  go_enter Safg.func180, Safg.ntmps180
  go_upto_region 3 with fail
  go_region
  have cN2 : (w.setCell ⟨gv, 8195, none⟩ (.int .i32 (jn : Int))).drew.cell? ⟨gv, 24579, none⟩ = some (.int .i32 0) := cN1
  have fN2 : (w.setCell ⟨gv, 8195, none⟩ (.int .i32 (jn : Int))).drew.frozen? ⟨gv, 24579, none⟩ = false := fN1
  have hv3 := (hv1.same (Same.drew _)).setNm 1
  have T3 : Turn [gv] w (w.setCell ⟨gv, 8195, none⟩ (.int .i32 (jn : Int))).drew := (Turn.of_only o1).trans (Turn.drew _ _)
  generalize (w.setCell ⟨gv, 8195, none⟩ (.int .i32 (jn : Int))).drew = w2 at *
  have cN3 : (w2.setCell ⟨gv, 24579, none⟩ (.int .i32 1)).cell? ⟨gv, 24579, none⟩ = some (.int .i32 1) := World.cell?_setCell_same _ _ _ cN2
  have o3 : Only gv w2 (w2.setCell ⟨gv, 24579, none⟩ (.int .i32 1)) := (Only.refl _ _).setCell _ _
  clear hv hv1 hv2
  go_wp2
  go_ret
  exact ⟨rfl, hv3, T3.trans (Turn.of_only o3)⟩

set_option maxRecDepth 100000 in
set_option maxHeartbeats 2000000 in
theorem sizes_any (B : Nat) (w : World) (gv : Nat) (s : Vst) (hv : VOk B w gv s) (hnm : s.nm ≤ 8) :
    Calls Safg.prog 53 #[.pointer (some ⟨gv, 0, none⟩)] w fun e w' => e = .returned (.tuple #[.int .i32 (s.accts.length : Int), .int .i32 0, .int .i32 (s.jn : Int), .int .i32 (s.nm : Int)]) ∧ Same w w' := by
  have cA := hv.cA
  have cS := hv.cS
  have cJ := hv.cJ
  have cN := hv.cN
  obtain ⟨aa, ac, hav⟩ := hv.slice
  obtain ⟨ja, jc, hjv⟩ := hv.jslice
  rw [hav] at cA
  rw [hjv] at cJ
  have h1 := hv.few; have h2 := hv.jfew
  generalize s.accts.length = n at *
  generalize s.jn = jn at *
  generalize s.nm = nm at *
  have q1 : IntKind.i32.wrap (jn : Int) = (jn : Int) := by simp [IntKind.wrap, IntKind.bits, IntKind.signed]; omega
  have q2 : IntKind.i32.wrap (n : Int) = (n : Int) := by simp [IntKind.wrap, IntKind.bits, IntKind.signed]; omega
  have hS := Same.drew w
  clear hv
  go_enter Safg.func53, Safg.ntmps53
  go_upto_region 1 with fail
  go_quiet (fail)
  go_wp2
  refine bodyPost_ret (v := .tuple #[.int .i32 (n : Int), .int .i32 0, .int .i32 (jn : Int), .int .i32 (nm : Int)]) ?_ rfl ⟨rfl, Same.drewN _ _⟩
  simp [results, Safg.results53]

set_option maxRecDepth 100000 in
set_option maxHeartbeats 2000000 in
/-- 'warm' of a cold account, or of one that is not there. -/
theorem warm_any (B : Nat) (w : World) (gv : Nat) (s : Vst) (hv : VOk B w gv s) (hB : B ≤ w.heap.size) (A : List Nat) (hA : A.length = 20) (acs : List Ac) (tb : Nat → Int) (i : Nat) (x : Ac) (HG : AcctGets B gv s A acs tb i x) (hj : s.jn < 60)
    (HW : ∀ w, VOk B w gv s → Calls Safg.prog 174 #[.pointer (some ⟨gv, 0, none⟩), arrV A] w fun e w' => e = .returned (.bool false) ∧ Below w.heap.size w w') :
    Calls Safg.prog 61 #[.pointer (some ⟨gv, 0, none⟩), arrV A] w fun e w' => e = .returned (.tuple #[]) ∧ ∃ s2, s2.accts = acs.set i { x with warm := true } ∧ s2.tab = tb ∧ s2.jn = s.jn + 1 ∧ s2.nm = s.nm ∧ VOk B w' gv s2 ∧ Turn (gv :: (s.av.ownBlock.toList ++ s.jv.ownBlock.toList)) w w' ∧ (s2.av.ownBlock = s.av.ownBlock ∨ ∀ g, s2.av.ownBlock = some g → w.heap.size ≤ g) ∧ (s2.jv.ownBlock = s.jv.ownBlock ∨ ∀ g, s2.jv.ownBlock = some g → w.heap.size ≤ g) := by
  have HS := fun (w : World) (hv : VOk B w gv s) (hB : B ≤ w.heap.size) => warmAcct_any B w gv s hv hB A hA acs tb i x HG hj
  go_enter Safg.func61, Safg.ntmps61
  go_wp2_with (first | (refine wpList_box_arr rfl 33 (.tmp 1) rfl A rfl ?_; intro w1 g3 hg3 o3 b3) | (go_at_call 174; refine (HW _ (hv.below b3)).mono ?_; rintro e w2 ⟨rfl, b2⟩; have o4 := o3.below b2 o3.lt) | (refine wpList_load_arr rfl 33 (.tmp 3) rfl g3 rfl A (by first | exact o3 | exact o4) 20 5 Safg.under33 (by rw [hA]; exact Safg.size33) ?_) | (go_at_call 175; refine (HS _ (hv.below (b3.trans (b2.mono b3.size))) (Nat.le_trans hB (Nat.le_trans b3.size b2.size))).mono ?_; rintro e w4 ⟨s2, rfl, h1, h2, h3, h4, h5, h6, h7, h8⟩))
  go_end0
  have sz := Nat.le_trans b3.size b2.size
  refine ⟨rfl, s2, h1, h2, h3, h4, h5, (Turn.of_below (b3.trans (b2.mono b3.size)) (Nat.le_refl _) _).trans h6, ?_, ?_⟩
  · rcases h7 with h | h
    · exact .inl h
    · exact .inr fun g hg => Nat.le_trans sz (h g hg)
  · rcases h8 with h | h
    · exact .inl h
    · exact .inr fun g hg => Nat.le_trans sz (h g hg)
end Go.Proofs.YgcsafGreat
