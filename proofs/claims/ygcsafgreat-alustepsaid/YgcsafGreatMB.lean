/-
  The machine's cells, by number; 'mach.New' (16) of the stage.
-/
import Derived.Test.YgcsafGreatStageA
namespace Go.Proofs.YgcsafGreat
open Go.RowKit
set_option linter.unusedVariables false
set_option linter.unusedSimpArgs false

/-- One cell is laid. -/
def upd (f : Nat → Value) (k : Nat) (v : Value) : Nat → Value := fun o => if o = k then v else f o
/-- A row of cells is laid. -/
def updL (f : Nat → Value) (k : Nat) (vs : List Value) : Nat → Value := fun o => if k ≤ o ∧ o < k + vs.length then vs.getD (o - k) undef else f o
theorem upd_same (f : Nat → Value) (k : Nat) (v : Value) : upd f k v k = v := if_pos rfl
theorem upd_ne (f : Nat → Value) {k o : Nat} (v : Value) (h : o ≠ k) : upd f k v o = f o := if_neg h
theorem updL_out (f : Nat → Value) {k o : Nat} (vs : List Value) (h : o < k ∨ k + vs.length ≤ o) : updL f k vs o = f o := if_neg (by omega)
theorem updL_in (f : Nat → Value) {k i : Nat} (vs : List Value) {v : Value} (h : vs[i]? = some v) : updL f k vs (k + i) = v := by
  have hi := (List.getElem?_eq_some_iff.1 h).1
  rw [updL, if_pos (by omega), Nat.add_sub_cancel_left, List.getD_eq_getElem?_getD, h]; rfl

/-- The machine's block: its 2435 cells are f's. -/
structure MB (w : World) (gm : Nat) (f : Nat → Value) : Prop where
  lt : gm < w.heap.size
  free : ∀ o, w.frozen? ⟨gm, o, none⟩ = false
  cell : ∀ o, o < 2435 → w.cell? ⟨gm, o, none⟩ = some (f o)
namespace MB
variable {w w' : World} {gm : Nat} {f : Nat → Value}
theorem turn {S : List Nat} (h : MB w gm f) (t : Turn S w w') (hn : gm ∉ S) : MB w' gm f :=
  ⟨Nat.lt_of_lt_of_le h.lt t.size, fun o => by rw [t.frozen (p := ⟨gm, o, none⟩) h.lt hn]; exact h.free o, fun o ho => by rw [t.cell (p := ⟨gm, o, none⟩) h.lt hn]; exact h.cell o ho⟩
theorem below (h : MB w gm f) (b : Below w.heap.size w w') : MB w' gm f := h.turn (Turn.of_below b (Nat.le_refl _) []) (by simp)
theorem drew (h : MB w gm f) : MB w.drew gm f := h.turn (Turn.drew [] w) (by simp)
theorem set (h : MB w gm f) {k : Nat} (hk : k < 2435) (v : Value) : MB (w.setCell ⟨gm, k, none⟩ v) gm (upd f k v) := by
  refine ⟨by simpa [World.setCell] using h.lt, fun o => by rw [World.frozen?_setCell]; exact h.free o, fun o ho => ?_⟩
  by_cases e : o = k
  · subst e
    rw [World.cell?_setCell_same (h := h.cell o hk), upd_same]
  · have hne : (⟨gm, k, none⟩ : Addr) ≠ ⟨gm, o, none⟩ := by
      intro e'
      injection e' with _ e2
      exact e e2.symm
    rw [World.cell?_setCell_other (h := hne), h.cell o ho, upd_ne _ _ e]
theorem sets (h : MB w gm f) {k : Nat} (vs : List Value) (hk : k + vs.length ≤ 2435) : MB (w.setCells gm k vs) gm (updL f k vs) := by
  refine ⟨?_, fun o => by rw [World.frozen?_setCells]; exact h.free o, fun o ho => ?_⟩
  · have := (Only.setCells (g := gm) vs (a := w) (w := w) k (Only.refl _ _)).size
    rw [this]; exact h.lt
  · by_cases h1 : k ≤ o ∧ o < k + vs.length
    · have := World.cell?_setCells_in gm vs k w (fun i hi => by rw [h.cell (k + i) (by omega)]; rfl) (o - k) (by omega)
      rw [show k + (o - k) = o by omega] at this
      rw [this, updL, if_pos h1, List.getD_eq_getElem?_getD, List.getElem?_eq_getElem (by omega)]; rfl
    · rw [World.cell?_setCells_out gm vs k w ⟨gm, o, none⟩ (fun _ _ => by show o < k ∨ _ ≤ o; omega), h.cell o ho, updL_out _ _ (by omega)]
theorem range (h : MB w gm f) {k : Nat} {vs : List Value} (hk : k + vs.length ≤ 2435) (hv : ∀ i v, vs[i]? = some v → f (k + i) = v) : w.rangeAt gm k vs := fun i v hi => by
  rw [h.cell (k + i) (by have := (List.getElem?_eq_some_iff.1 hi).1; omega), hv i v hi]
theorem there (h : MB w gm f) {k n : Nat} (hk : k + n ≤ 2435) : w.there gm k n := fun j hj => ⟨by rw [h.cell (k + j) (by omega)]; rfl, h.free _⟩
end MB

/-- The cells of a zero frame. -/
def frZ : List Value := [.int .u8 0, .int .u8 0, .int .u8 0, .bool false, .int .u16 0, .int .u16 0, .int .u16 0, .int .u64 0, .int .i32 0] ++ (cellsL (List.replicate 40 0) ++ (List.replicate 4 (.int .u64 0) ++ ([.slice none 0 0, .slice none 0 0] ++ (List.replicate 8 (.int .u64 0) ++ [.int .u32 0, .int .u32 0]))))
/-- The cells of a new machine. -/
def mN (gv : Nat) : List Value :=
  .pointer (some ⟨gv, 0, none⟩) :: .slice none 0 0 :: (List.replicate 8 (.int .u32 0) ++ (.int .u8 0 :: (List.replicate 1792 (.int .u64 0) ++ (frZ ++ (frZ ++ (frZ ++ (frZ ++ (frZ ++ (frZ ++ (frZ ++ (.int .i8 (-1) :: .slice none 0 0 :: (envL ++ (cellsL (List.replicate 20 0) ++ (List.replicate 4 (.int .u64 0) ++ ([.int .u8 0, .int .u8 0, .int .u8 0, .int .u64 0, .int .u64 0] ++ (List.replicate 4 (.int .u64 0) ++ ([.int .i32 0, .int .i32 0] ++ cellsL (List.replicate 20 0))))))))))))))))))
set_option maxRecDepth 1000000 in
theorem built74 (gv : Nat) : Safg.prog.built 74 [(0, .pointer (some ⟨gv, 0, none⟩)), (4, .int .i8 (-1)), (6, .agg envL.toArray)] = some (mN gv).toArray := by kernel_rfl
set_option maxRecDepth 1000000 in
theorem mN_length (gv : Nat) : (mN gv).length = 2435 := by kernel_rfl
/-- A new machine's cells, by number. -/
def mF (gv : Nat) : Nat → Value := fun o => (mN gv).getD o undef
theorem MB.of_blk {w : World} {gm gv : Nat} (h : Blk w gm (mN gv)) : MB w gm (mF gv) :=
  ⟨h.lt, h.free, fun o ho => h.get (by rw [mF, List.getD_eq_getElem?_getD, List.getElem?_eq_getElem (by rw [mN_length]; exact ho)]; rfl)⟩
end Go.Proofs.YgcsafGreat
