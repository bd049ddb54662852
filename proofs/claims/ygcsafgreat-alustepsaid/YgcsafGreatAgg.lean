/-
  STRUCTS BY VALUE: laws for box, load, store and alloc of an aggregate whose cells are whatever.
-/
import Derived.Test.YgcsafGreatCmp
import Derived.Deep.MidRow
namespace Go.Proofs.YgcsafGreat
open Go.RowKit
set_option linter.unusedVariables false
set_option linter.unusedSimpArgs false

/-- Block g of the call's own holds the cells cs. -/
structure Blk (w : World) (g : Nat) (cs : List Value) : Prop where
  lt : g < w.heap.size
  cell : w.rangeAt g 0 cs
  free : ∀ o, w.frozen? ⟨g, o, none⟩ = false

theorem Blk.get {w : World} {g : Nat} {cs : List Value} (h : Blk w g cs) {j : Nat} {v : Value} (hv : cs[j]? = some v) : w.cell? ⟨g, j, none⟩ = some v := by
  have := h.cell j v hv
  rwa [Nat.zero_add] at this
theorem Blk.below {w w' : World} {g : Nat} {cs : List Value} (h : Blk w g cs) {B : Nat} (hb : Below B w w') (hg : g < B) : Blk w' g cs :=
  ⟨Nat.lt_of_lt_of_le h.lt hb.size, fun j v hv => by rw [hb.cell (p := ⟨g, 0 + j, none⟩) hg]; exact h.cell j v hv, fun o => by rw [hb.frozen (p := ⟨g, o, none⟩) hg]; exact h.free o⟩
theorem Blk.alloc (w : World) (cs : List Value) (t : TypeId) : Blk (w.alloc (.cells cs.toArray t)) w.heap.size cs := by
  refine ⟨by simp, fun j v hv => ?_, fun o => ?_⟩
  · unfold World.cell?
    rw [heap_alloc_new]
    show (if (none : Option _).isSome = true then none else cs.toArray[0 + j]?) = _
    rw [Nat.zero_add]
    simpa using hv
  · unfold World.frozen?
    rw [heap_alloc_new]
    simp
theorem Blk.there {w : World} {g : Nat} {cs : List Value} (h : Blk w g cs) : w.there g 0 cs.length := fun j hj => by
  have := h.cell j _ (List.getElem?_eq_getElem hj)
  exact ⟨by rw [this]; rfl, h.free _⟩
theorem Blk.store {w : World} {g : Nat} {cs cs' : List Value} (h : Blk w g cs) (hl : cs'.length = cs.length) : Blk (w.setCells g 0 cs') g cs' := by
  refine ⟨?_, World.rangeAt_setCells_same w g 0 cs' (by rw [hl]; exact h.there), fun o => by rw [World.frozen?_setCells]; exact h.free o⟩
  have := (Only.setCells (g := g) cs' (a := w) (w := w) 0 (Only.refl _ _)).size
  rw [this]; exact h.lt
/-- One cell of the block is stored. -/
theorem Blk.set {w : World} {g : Nat} {cs : List Value} (h : Blk w g cs) {k : Nat} (hk : k < cs.length) (v : Value) : Blk (w.setCell ⟨g, k, none⟩ v) g (cs.set k v) := by
  refine ⟨by simpa [World.setCell] using h.lt, fun j u hu => ?_, fun o => by rw [World.frozen?_setCell]; exact h.free o⟩
  rw [Nat.zero_add]
  by_cases e : j = k
  · subst e
    have hc := h.cell j _ (List.getElem?_eq_getElem hk)
    rw [Nat.zero_add] at hc
    rw [World.cell?_setCell_same (h := hc)]
    simpa [hk] using hu
  · have hne : (⟨g, k, none⟩ : Addr) ≠ ⟨g, j, none⟩ := by
      intro e'
      injection e' with _ e2
      exact e e2.symm
    have hu' : cs[j]? = some u := by rw [← hu, List.getElem?_set_ne (Ne.symm e)]
    have hc := h.cell j u hu'
    rw [Nat.zero_add] at hc
    rw [World.cell?_setCell_other (h := hne), hc]
theorem Same.blk {w w' : World} (h : Same w w') {g : Nat} {cs : List Value} (hb : Blk w g cs) : Blk w' g cs :=
  ⟨by rw [h.heap]; exact hb.lt, fun j v hv => by rw [h.cell]; exact hb.cell j v hv, fun o => by rw [h.frozen]; exact hb.free o⟩

section
variable {w : World} {ops : Array Oper} {rest : List Oper} {op : Oper} {a : Act} {Q : Exit → Act → World → Prop}

theorem wpList_box_agg (hgd : op.guard = none) (ty : TypeId) (x : Operand) (ho : op.op = .box ty x) (cs : List Value) (hx : a.eval x = .agg cs.toArray)
    (hK : ∀ w' g, w.heap.size ≤ g → Blk w' g cs → Below w.heap.size w w' → wpList Safg.prog ops Q rest (a.put op.dst (.pointer (some ⟨g, 0, none⟩))) w') :
    wpList Safg.prog ops Q (op :: rest) a w := by
  refine wpList_plain hgd fun K hK' => ?_
  have hrun : (Instr.box ty (.agg cs.toArray)).run Safg.prog w = .ok (.pointer (some ⟨w.heap.size, 0, none⟩)) (w.alloc (.cells cs.toArray ty)) := by
    simp [Instr.box, newVar, newRow, Value.cells]
  unfold Oper.wp
  simp only [execOp, ho, hx, Sem.run_bind, hrun, Result.andThen_ok, Sem.run_pure, Oper.upon_value]
  exact hK' _ _ (hK _ _ (Nat.le_refl _) (Blk.alloc w _ ty) ((Below.refl _ _).alloc (Nat.le_refl _) _))

theorem wpList_alloc_agg (hgd : op.guard = none) (ty : TypeId) (ho : op.op = .alloc ty) (cs : List Value) (hz : (Safg.prog.info? ty).map (·.zero) = some (some (.agg cs.toArray)))
    (hK : ∀ w' g, w.heap.size ≤ g → Blk w' g cs → Below w.heap.size w w' → wpList Safg.prog ops Q rest (a.put op.dst (.pointer (some ⟨g, 0, none⟩))) w') :
    wpList Safg.prog ops Q (op :: rest) a w := by
  refine wpList_plain hgd fun K hK' => ?_
  obtain ⟨i, hi, hz'⟩ := Option.map_eq_some_iff.1 hz
  have hrun : (Instr.alloc ty true (.tuple #[])).run Safg.prog w = .ok (.pointer (some ⟨w.heap.size, 0, none⟩)) (w.alloc (.cells cs.toArray ty)) := by
    simp [Instr.alloc, zeroValue, typeInfo, hi, hz', newVar, newRow, Value.cells]
  unfold Oper.wp
  simp only [execOp, ho, Sem.run_bind, hrun, Result.andThen_ok, Sem.run_pure, Oper.upon_value]
  exact hK' _ _ (hK _ _ (Nat.le_refl _) (Blk.alloc w _ ty) ((Below.refl _ _).alloc (Nat.le_refl _) _))

theorem wpList_load_agg (hgd : op.guard = none) (ty : TypeId) (x : Operand) (ho : op.op = .load ty x) (g : Nat) (hx : a.eval x = .pointer (some ⟨g, 0, none⟩)) (cs : List Value) (h : Blk w g cs)
    (fs : Array Field) (hu : Safg.prog.underlying ty = some (.struct fs)) (hi : (Safg.prog.info? ty).map (·.size) = some cs.length)
    (hK : wpList Safg.prog ops Q rest (a.put op.dst (.agg cs.toArray)) w) : wpList Safg.prog ops Q (op :: rest) a w :=
  wpList_load_mid hgd ty x ho g 0 hx cs _ h.cell hu rfl hi hK

/-- The address of an element of a slice. -/
theorem wpList_index_slice (hgd : op.guard = none) (ty : TypeId) (x ix : Operand) (ho : op.op = .indexAddr ty x ix) (b off len cap i sz : Nat) (hx : a.eval x = .slice (some ⟨b, off, none⟩) len cap) (hix : a.eval ix = .int .i64 (i : Int)) (hi : i < len)
    (hu : Safg.prog.underlying ty = some (.slice (Safg.prog.elem ty))) (hs : ∀ w, (sizeOf (Safg.prog.elem ty)).run Safg.prog w = .ok sz w)
    (hK : wpList Safg.prog ops Q rest (a.put op.dst (.pointer (some ⟨b, off + i * sz, none⟩))) w) : wpList Safg.prog ops Q (op :: rest) a w := by
  refine wpList_plain hgd fun K hK' => ?_
  have hrun : (Instr.indexAt ty (.slice (some ⟨b, off, none⟩) len cap) (.int .i64 (i : Int))).run Safg.prog w = .ok (.pointer (some ⟨b, off + i * sz, none⟩)) w := by
    rw [run_indexAt_slice (h := hu), if_pos (by omega), hs]
    simp only [Result.andThen_ok, Int.toNat_natCast, Addr.add_mid]
  unfold Oper.wp
  simp only [execOp, ho, hx, hix, Sem.run_bind, hrun, Result.andThen_ok, Sem.run_pure, Oper.upon_value]
  exact hK' _ _ hK

theorem wpList_store_agg (hgd : op.guard = none) (ty : TypeId) (x y : Operand) (ho : op.op = .store ty x y) (g : Nat) (hx : a.eval x = .pointer (some ⟨g, 0, none⟩)) (cs cs' : List Value) (hy : a.eval y = .agg cs'.toArray) (h : Blk w g cs)
    (hl : cs'.length = cs.length) (hi : (Safg.prog.info? ty).map (·.size) = some cs.length) (h1 : ∀ v ∈ cs', v.oneCell' = true)
    (hK : ∀ w', Blk w' g cs' → Only g w w' → wpList Safg.prog ops Q rest (a.put op.dst undef) w') : wpList Safg.prog ops Q (op :: rest) a w := by
  refine wpList_store_mid hgd ty x y ho g 0 cs'.toArray hx hy ?_ ?_ (all_oneCell_toArray h1) ?_
  · have : cs'.toArray.size = cs.length := by simp [hl]
    rw [this]; exact h.there
  · rw [hi]; simp [hl]
  · exact hK _ (h.store hl) (Only.setCells _ 0 (Only.refl _ _))
end
end Go.Proofs.YgcsafGreat
