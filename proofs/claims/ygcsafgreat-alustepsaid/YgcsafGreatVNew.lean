/-
  'vault.New' (14) of the stage.
-/
import Derived.Test.YgcsafGreatFill
namespace Go.Proofs.YgcsafGreat
open Go.RowKit
set_option linter.unusedVariables false
set_option linter.unusedSimpArgs false

/-- The cells of a zero vault. -/
def zV : List Value := .slice none 0 0 :: .slice none 0 0 :: (List.replicate 4096 (.int .i32 0) ++ (List.replicate 4096 (.int .i32 0) ++ (.slice none 0 0 :: (List.replicate 16384 (.int .i32 0) ++ [.int .i32 0, .int .u64 0, .slice none 0 0, .slice none 0 0, .slice none 0 0]))))
set_option maxRecDepth 1000000 in
theorem Safg.zero92 : (Safg.prog.info? 92).map (·.zero) = some (some (.agg zV.toArray)) := by kernel_rfl
theorem getR {α : Type} {n j : Nat} {v : α} {r : List α} (h : j < n) : (List.replicate n v ++ r)[j]? = some v := by
  rw [List.getElem?_append_left (by simpa using h)]
  simp [h]
theorem getB {α : Type} {n j : Nat} {v : α} {r : List α} : (List.replicate n v ++ r)[n + j]? = r[j]? := by
  rw [List.getElem?_append_right (by simp)]
  simp
theorem zV_T {j : Nat} (h : j < 4096) : zV[2 + j]? = some (.int .i32 0) := by
  rw [Nat.add_comm]
  show (List.replicate 4096 (Value.int .i32 0) ++ _)[j]? = _
  exact getR h
theorem zV_hi (j : Nat) : zV[4098 + j]? = (List.replicate 4096 (Value.int .i32 0) ++ (.slice none 0 0 :: (List.replicate 16384 (.int .i32 0) ++ [.int .i32 0, .int .u64 0, .slice none 0 0, .slice none 0 0, .slice none 0 0])))[j]? := by
  rw [show 4098 + j = (4096 + j) + 1 + 1 by omega]
  show (List.replicate 4096 (Value.int .i32 0) ++ _)[4096 + j]? = _
  exact getB
theorem zV_J (j : Nat) : zV[8194 + j]? = (.slice none 0 0 :: (List.replicate 16384 (Value.int .i32 0) ++ [.int .i32 0, .int .u64 0, .slice none 0 0, .slice none 0 0, .slice none 0 0]))[j]? := by
  rw [show 8194 + j = 4098 + (4096 + j) by omega, zV_hi]
  exact getB
theorem zV_M {j : Nat} (h : j < 16384) : zV[8195 + j]? = some (.int .i32 0) := by
  rw [show 8195 + j = 8194 + (j + 1) by omega, zV_J]
  show (List.replicate 16384 (Value.int .i32 0) ++ _)[j]? = _
  exact getR h
theorem zV_N (j : Nat) : zV[24579 + j]? = [Value.int .i32 0, .int .u64 0, .slice none 0 0, .slice none 0 0, .slice none 0 0][j]? := by
  rw [show 24579 + j = 8194 + ((16384 + j) + 1) by omega, zV_J]
  show (List.replicate 16384 (Value.int .i32 0) ++ _)[16384 + j]? = _
  exact getB
theorem VOk.zero {B : Nat} {w : World} {g : Nat} (h : Blk w g zV) : VOk B w g (vst0 fun _ => 0) :=
  ⟨h.lt, h.free, h.get rfl, .inl ⟨rfl, rfl, rfl⟩, h.get rfl, fun j hj => h.get (zV_T hj), h.get (zV_J 0), .inl ⟨rfl, rfl, rfl⟩, fun j hj => ⟨0, h.get (zV_M hj)⟩, h.get (zV_N 0), h.get (zV_N 1), h.get (zV_N 2), fun x hx => (by cases hx), (by show 0 ≤ 8; omega), (by show 0 ≤ _; exact Nat.zero_le _), by simp [vst0, nilV, Value.ownBlock], by simp [vst0, nilV, Value.ownBlock], by simp [vst0, nilV, Value.ownBlock]⟩
theorem STab.zero {w : World} {g : Nat} (h : Blk w g zV) : STab w g := fun j hj => ⟨0, h.get (by rw [zV_hi]; exact getR hj)⟩

/-- What 'New' leaves. -/
def VNewPost (B : Nat) (w : World) (A0 A1 L C : List Nat) (e : Ending) (w' : World) : Prop :=
  ∃ gv s v, e = .returned (.tuple #[.pointer (some ⟨gv, 0, none⟩), .bool true]) ∧ w.heap.size ≤ gv ∧ VOk B w' gv s ∧ s.accts = [⟨A0, 1, wdOf (List.replicate 32 0), v, false, false, false⟩, ⟨A1, 0, wdOf L, .slice none 0 0, false, false, false⟩] ∧ s.tab = putTab (putTab (fun _ => -1) (homeN A0) 0) (homeN A1) 1 ∧ s.jn = 0 ∧ s.nm = 0 ∧ CodeIs w' v C ∧ Below w.heap.size w w' ∧ (∀ g, v.ownBlock = some g → gv < g) ∧ (∀ g, s.av.ownBlock = some g → gv < g) ∧ s.jv = nilV
set_option maxRecDepth 100000 in
set_option maxHeartbeats 2000000 in
theorem vnew_two (B : Nat) (w : World) (gw cw : Nat) (A0 A1 L : List Nat) (a : Option Addr) (k c : Nat) (C : List Nat) (hB : B ≤ w.heap.size) (h : Stg w gw A0 A1 L a k c) (hk0 : 0 < k) (hk : k ≤ 256) (hL : L.length = 32) (dL : D.Dig L) (hne : L ≠ List.replicate 32 0) (hC : Rd w a k C) 
    (hlt : Op.bytesLess (strL A0).toList (strL A1).toList = true) (dA0 : D.Dig A0) (dA1 : D.Dig A1) (hhome : homeN A0 ≠ homeN A1) :
    Calls Safg.prog 14 #[.slice (some ⟨gw, 0, none⟩) 2 cw] w (VNewPost B w A0 A1 L C) := by
  have hCl : ∀ p, a = some p → p.block < w.heap.size := fun p hp => by
    obtain ⟨b, off, h1, h2, _⟩ := hC.cell 0 hk0
    rw [hp] at h1
    injection h1 with h1
    rw [h1]; exact h2
  go_enter Safg.func14, Safg.ntmps14
  go_upto_region 2 with (refine wpList_alloc_agg rfl 92 rfl zV Safg.zero92 ?_; intro w1 gv hgv k1 b1)
  have lw := h.lt
  have hF := fill_two B w1 gv gw cw _ A0 A1 L a k c C (VOk.zero k1) (STab.zero k1) (Nat.le_trans hB b1.size) (h.turn (Turn.of_below b1 (Nat.le_refl _) []) (by simp)) hk0 hk hL dL hne (hC.turn' (Turn.of_below b1 (Nat.le_refl _) []) (by simp)) (fun p hp => by have := hCl p hp; omega) (fun p hp => Nat.lt_of_lt_of_le (hCl p hp) b1.size) hlt (by omega) dA0 dA1 hhome
  have l1 := k1.lt
  clear k1
  go_wp2_with (go_at_call 50; refine hF.mono ?_; rintro e w2 ⟨s, v, rfl, p1, p2, p3, p4, p5, p6, p7, p8, p9, p10⟩)
  refine bodyPost_ret (v := .tuple #[.pointer (some ⟨gv, 0, none⟩), .bool true]) ?_ rfl ?_
  · simp [results, Safg.results14]
  · exact ⟨gv, s, v, rfl, hgv, p1, p2, p3, p4, p5, p6, b1.trans (p7.below b1.size (by intro q hq; obtain rfl : q = gv := (by simpa using hq); exact hgv)), fun g hg => by have := p8 g hg; omega, fun g hg => by have := p9 g hg; omega, p10⟩
end Go.Proofs.YgcsafGreat
