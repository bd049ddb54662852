/-
  ARRAYS OF BYTES BY VALUE: laws for load, store, alloc, box, build and == in the form that the walk takes.
-/
import Derived.Test.YgcsafGreatTrim
import Derived.Deep.MidRow
import Derived.Stop.BytesEq
namespace Go.Proofs.YgcsafGreat
open Go.RowKit
set_option linter.unusedVariables false
set_option linter.unusedSimpArgs false

/-- The bytes as cells. -/
def cellsL (L : List Nat) : List Value := L.map fun d => Value.int .u8 ((d : Nat) : Int)
/-- An array of bytes, as a value. -/
def arrV (L : List Nat) : Value := .agg (cellsL L).toArray

theorem cellsL_length (L : List Nat) : (cellsL L).length = L.length := by simp [cellsL]
theorem cellsL_get (L : List Nat) (j : Nat) (v : Value) (h : (cellsL L)[j]? = some v) : j < L.length ∧ v = .int .u8 ((L.getD j 0 : Nat) : Int) := by
  simp only [cellsL, List.getElem?_map, Option.map_eq_some_iff] at h
  obtain ⟨d, hd, rfl⟩ := h
  obtain ⟨hj, e⟩ := List.getElem?_eq_some_iff.1 hd
  exact ⟨hj, by simp [hj, e]⟩
theorem cellsL_one (L : List Nat) : ∀ v ∈ cellsL L, v.oneCell' = true := by
  intro v hv
  simp only [cellsL, List.mem_map] at hv
  obtain ⟨d, _, rfl⟩ := hv
  rfl

/-- Block g alone has turned. -/
structure Only (g : Nat) (w w' : World) : Prop where
  os : w'.os = w.os
  tape : w'.tape = w.tape
  output : w'.output = w.output
  size : w'.heap.size = w.heap.size
  block : ∀ k, k ≠ g → w'.heap[k]? = w.heap[k]?

theorem Only.refl (g : Nat) (w : World) : Only g w w := ⟨rfl, rfl, rfl, rfl, fun _ _ => rfl⟩
theorem Only.trans {g : Nat} {a b c : World} (h : Only g a b) (k : Only g b c) : Only g a c :=
  ⟨k.os.trans h.os, k.tape.trans h.tape, k.output.trans h.output, k.size.trans h.size, fun i hi => (k.block i hi).trans (h.block i hi)⟩
theorem Only.below {g B : Nat} {w w' : World} (h : Only g w w') (hB : B ≤ g) : Below B w w' :=
  ⟨h.os, h.tape, h.output, by rw [h.size]; exact Nat.le_refl _, fun k hk => h.block k (by omega)⟩
theorem Only.setCell {g : Nat} {a w : World} (h : Only g a w) (o : Nat) (u : Value) : Only g a (w.setCell ⟨g, o, none⟩ u) :=
  h.trans ⟨rfl, rfl, rfl, by simp [World.setCell], fun k hk => Below.heap_setCell _ _ _ _ hk⟩
theorem Only.setCells {g : Nat} (vs : List Value) : ∀ {a w : World} (o : Nat), Only g a w → Only g a (w.setCells g o vs) := by
  induction vs with
  | nil => intro a w o h; exact h
  | cons v vs ih => intro a w o h; rw [World.setCells]; exact ih (o + 1) (h.setCell o v)
theorem Only.cell {g : Nat} {w w' : World} (h : Only g w w') {p : Addr} (hp : p.block ≠ g) : w'.cell? p = w.cell? p := World.cell?_of_block (w := w) (h.block p.block hp)
theorem Only.frozen {g : Nat} {w w' : World} (h : Only g w w') {p : Addr} (hp : p.block ≠ g) : w'.frozen? p = w.frozen? p := World.frozen?_of_block (w := w) (h.block p.block hp)
theorem Only.own {g g' : Nat} {w w' : World} {L : List Nat} (h : Only g w w') (ho : Own w g' L) (hne : g' ≠ g) : Own w' g' L :=
  ⟨by rw [h.size]; exact ho.lt, fun j hj => by rw [h.cell (p := ⟨g', j, none⟩) hne]; exact ho.cell j hj, fun o => by rw [h.frozen (p := ⟨g', o, none⟩) hne]; exact ho.free o⟩

theorem Own.store {w : World} {g : Nat} {L L' : List Nat} (h : Own w g L) (hl : L'.length = L.length) : Own (w.setCells g 0 (cellsL L')) g L' := by
  have hs : ∀ j, j < (cellsL L').length → (w.cell? ⟨g, 0 + j, none⟩).isSome = true := fun j hj => by
    rw [cellsL_length] at hj
    rw [Nat.zero_add, h.cell j (by omega)]; rfl
  refine ⟨?_, fun j hj => ?_, fun o => by rw [World.frozen?_setCells]; exact h.free o⟩
  · have := (Only.setCells (g := g) (cellsL L') (a := w) (w := w) 0 (Only.refl _ _)).size
    rw [this]; exact h.lt
  · have hj' : j < (cellsL L').length := by rw [cellsL_length]; exact hj
    have := World.cell?_setCells_in g (cellsL L') 0 w hs j hj'
    rw [Nat.zero_add] at this
    rw [this]
    obtain ⟨_, e⟩ := cellsL_get L' j _ (List.getElem?_eq_getElem hj')
    rw [e]

theorem Own.range {w : World} {g : Nat} {L : List Nat} (h : Own w g L) : w.rangeAt g 0 (cellsL L) := fun j v hv => by
  obtain ⟨hj, rfl⟩ := cellsL_get L j v hv
  rw [Nat.zero_add]; exact h.cell j hj

theorem Own.there {w : World} {g : Nat} {L : List Nat} (h : Own w g L) : w.there g 0 L.length := fun j hj => by
  rw [Nat.zero_add]
  exact ⟨by rw [h.cell j hj]; rfl, h.free j⟩

theorem Own.alloc_cells (w : World) (L : List Nat) (t : TypeId) : Own (w.alloc (.cells (cellsL L).toArray t)) w.heap.size L := by
  refine ⟨by simp, fun j hj => ?_, fun o => ?_⟩
  · unfold World.cell?
    rw [heap_alloc_new]
    have hj' : j < (cellsL L).length := by rw [cellsL_length]; exact hj
    obtain ⟨_, e⟩ := cellsL_get L j _ (List.getElem?_eq_getElem hj')
    show (if (none : Option _).isSome = true then none else (cellsL L).toArray[j]?) = _
    simp only [Option.isSome_none, Bool.false_eq_true, if_false, List.getElem?_toArray]
    rw [List.getElem?_eq_getElem hj', e]
  · unfold World.frozen?
    rw [heap_alloc_new]
    simp

section
variable {w : World} {ops : Array Oper} {rest : List Oper} {op : Oper} {a : Act} {Q : Exit → Act → World → Prop}

/-- An array is loaded whole. -/
theorem wpList_load_arr (hgd : op.guard = none) (ty : TypeId) (x : Operand) (ho : op.op = .load ty x) (g : Nat) (hx : a.eval x = .pointer (some ⟨g, 0, none⟩)) (L : List Nat) (h : Own w g L)
    (n : Nat) (e : TypeId) (hu : Safg.prog.underlying ty = some (.array n e)) (hi : (Safg.prog.info? ty).map (·.size) = some L.length)
    (hK : wpList Safg.prog ops Q rest (a.put op.dst (arrV L)) w) : wpList Safg.prog ops Q (op :: rest) a w :=
  wpList_load_mid hgd ty x ho g 0 hx (cellsL L) _ h.range hu rfl (by rw [cellsL_length]; exact hi) hK

/-- An array is stored whole into a variable of the call's own. -/
theorem wpList_store_arr (hgd : op.guard = none) (ty : TypeId) (x y : Operand) (ho : op.op = .store ty x y) (g : Nat) (hx : a.eval x = .pointer (some ⟨g, 0, none⟩)) (L L' : List Nat) (hy : a.eval y = arrV L') (h : Own w g L)
    (hl : L'.length = L.length) (hi : (Safg.prog.info? ty).map (·.size) = some L.length)
    (hK : ∀ w', Own w' g L' → Only g w w' → wpList Safg.prog ops Q rest (a.put op.dst undef) w') : wpList Safg.prog ops Q (op :: rest) a w := by
  refine wpList_store_mid hgd ty x y ho g 0 (cellsL L').toArray hx hy ?_ ?_ (all_oneCell_toArray (cellsL_one L')) ?_
  · have : (cellsL L').toArray.size = L.length := by simp [cellsL_length, hl]
    rw [this]; exact h.there
  · rw [hi]; simp [cellsL_length, hl]
  · exact hK _ (h.store hl) (Only.setCells _ 0 (Only.refl _ _))

/-- A new variable of an array type. -/
theorem wpList_alloc_arr (hgd : op.guard = none) (ty : TypeId) (ho : op.op = .alloc ty) (n : Nat) (hz : (Safg.prog.info? ty).map (·.zero) = some (some (arrV (List.replicate n 0))))
    (hK : ∀ w' g, w.heap.size ≤ g → Own w' g (List.replicate n 0) → Below w.heap.size w w' → wpList Safg.prog ops Q rest (a.put op.dst (.pointer (some ⟨g, 0, none⟩))) w') :
    wpList Safg.prog ops Q (op :: rest) a w := by
  refine wpList_plain hgd fun K hK' => ?_
  obtain ⟨i, hi, hz'⟩ := Option.map_eq_some_iff.1 hz
  have hrun : (Instr.alloc ty true (.tuple #[])).run Safg.prog w = .ok (.pointer (some ⟨w.heap.size, 0, none⟩)) (w.alloc (.cells (cellsL (List.replicate n 0)).toArray ty)) := by
    simp [Instr.alloc, zeroValue, typeInfo, hi, hz', newVar, newRow, arrV, Value.cells]
  unfold Oper.wp
  simp only [execOp, ho, Sem.run_bind, hrun, Result.andThen_ok, Sem.run_pure, Oper.upon_value]
  exact hK' _ _ (hK _ _ (Nat.le_refl _) (Own.alloc_cells w _ ty) ((Below.refl _ _).alloc (Nat.le_refl _) _))

/-- '[n]byte{}'. -/
theorem wpList_build0_arr (hgd : op.guard = none) (ty : TypeId) (ho : op.op = .build ty #[]) (n : Nat) (e : TypeId) (hu : Safg.prog.underlying ty = some (.array n e)) (hs : (Safg.prog.info? e).isSome = true)
    (hz : (Safg.prog.info? ty).map (·.zero) = some (some (arrV (List.replicate n 0)))) (hK : wpList Safg.prog ops Q rest (a.put op.dst (arrV (List.replicate n 0))) w) :
    wpList Safg.prog ops Q (op :: rest) a w := by
  refine wpList_plain hgd fun K hK' => ?_
  obtain ⟨i, hi, hz'⟩ := Option.map_eq_some_iff.1 hz
  obtain ⟨j, hj⟩ := Option.isSome_iff_exists.1 hs
  have hrun : (Instr.build ty #[]).run Safg.prog w = .ok (arrV (List.replicate n 0)) w := by
    simp [Instr.build, zeroValue, sizeOf, typeInfo, hi, hj, hz', run_underlying hu, Instr.fill, arrV, Value.cells]
  unfold Oper.wp
  simp only [execOp, ho, List.map_toArray, List.map_nil, Sem.run_bind, hrun, Result.andThen_ok, Sem.run_pure, Oper.upon_value]
  exact hK' _ _ hK

/-- An array is laid into a new variable. -/
theorem wpList_box_arr (hgd : op.guard = none) (ty : TypeId) (x : Operand) (ho : op.op = .box ty x) (L : List Nat) (hx : a.eval x = arrV L)
    (hK : ∀ w' g, w.heap.size ≤ g → Own w' g L → Below w.heap.size w w' → wpList Safg.prog ops Q rest (a.put op.dst (.pointer (some ⟨g, 0, none⟩))) w') :
    wpList Safg.prog ops Q (op :: rest) a w := by
  refine wpList_plain hgd fun K hK' => ?_
  have hrun : (Instr.box ty (arrV L)).run Safg.prog w = .ok (.pointer (some ⟨w.heap.size, 0, none⟩)) (w.alloc (.cells (cellsL L).toArray ty)) := by
    simp [Instr.box, newVar, newRow, arrV, Value.cells]
  unfold Oper.wp
  simp only [execOp, ho, hx, Sem.run_bind, hrun, Result.andThen_ok, Sem.run_pure, Oper.upon_value]
  exact hK' _ _ (hK _ _ (Nat.le_refl _) (Own.alloc_cells w _ ty) ((Below.refl _ _).alloc (Nat.le_refl _) _))

end

theorem cellsL_bytes {L : List Nat} (h : D.Dig L) : cellsL L = (L.map UInt8.ofNat).map Extern.Stop.cell := by
  unfold cellsL
  rw [List.map_map]
  apply List.map_congr_left
  intro d hd
  have := h d hd
  simp [Extern.Stop.cell]
  omega

theorem bytes_beq {A B : List Nat} (ha : D.Dig A) (hb : D.Dig B) : (A.map UInt8.ofNat == B.map UInt8.ofNat) = decide (A = B) := by
  rw [Bool.eq_iff_iff]
  simp only [beq_iff_eq, decide_eq_true_eq]
  constructor
  · intro h
    have hl : A.length = B.length := by simpa using congrArg List.length h
    apply List.ext_getElem hl
    intro i h1 h2
    have := congrArg (fun l => l[i]?) h
    simp [h1, h2] at this
    have e1 := ha _ (List.getElem_mem h1)
    have e2 := hb _ (List.getElem_mem h2)
    have := congrArg UInt8.toNat this
    simp at this
    omega
  · intro h; rw [h]

/-- Two arrays of bytes are equal just where their bytes are. -/
theorem run_eql_arr (w : World) (ty : TypeId) (n : Nat) (hu : Safg.prog.underlying ty = some (.array n 5)) (A B : List Nat) (ha : D.Dig A) (hb : D.Dig B) (la : A.length = n) (lb : B.length = n) :
    (binOp .eql ty (arrV A) (arrV B)).run Safg.prog w = .ok (.bool (decide (A = B))) w := by
  unfold arrV
  rw [cellsL_bytes ha, cellsL_bytes hb, run_eql_bytes w ty 5 n hu Safg.underlying5 Safg.sizeOf5 _ _ (by simpa using la) (by simpa using lb), bytes_beq ha hb]

theorem wpList_eql_arr {w : World} {ops : Array Oper} {rest : List Oper} {op : Oper} {a : Act} {Q : Exit → Act → World → Prop} (hgd : op.guard = none) (ty yt : TypeId) (x y : Operand) (ho : op.op = .binOp .eql ty x y yt)
    (n : Nat) (hu : Safg.prog.underlying ty = some (.array n 5)) (hq : Safg.prog.eqGuardType Safg.prog.depth ty = false) (A B : List Nat) (hx : a.eval x = arrV A) (hy : a.eval y = arrV B) (ha : D.Dig A) (hb : D.Dig B) (la : A.length = n) (lb : B.length = n)
    (hK : wpList Safg.prog ops Q rest (a.put op.dst (.bool (decide (A = B)))) w) : wpList Safg.prog ops Q (op :: rest) a w := by
  refine wpList_plain hgd fun K hK' => ?_
  have hg : (eqGuard .eql ty x y (arrV A) (arrV B)).run Safg.prog w = .ok () w := by
    simp [eqGuard, arrV, hq]
  unfold Oper.wp
  simp only [execOp, ho, hx, hy, Sem.run_bind, hg, Result.andThen_ok, run_eql_arr w ty n hu A B ha hb la lb, Sem.run_pure, Oper.upon_value]
  exact hK' _ _ hK

end Go.Proofs.YgcsafGreat
