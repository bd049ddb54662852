/-
  WHAT THE WALKS SAY OF MEMORY: a slice of bytes that reads as a list of digits; a row of bytes of the call's own.
-/
import Derived.Test.YgcsafGreatRows
import Derived.Test.YgcsafGreatDigits
import Derived.WalkKit
import Derived.WalkLawsBesides
import Derived.Deep.QuietTactic
import Derived.BigQuiet
import Derived.Lib.SliceRun
import Derived.WalkSpells
namespace Go.Proofs.YgcsafGreat
open Go.RowKit
set_option linter.unusedVariables false
set_option linter.unusedSimpArgs false

/-- The slice at 'a' of 'len' bytes reads as 'l'. -/
structure Rd (w : World) (a : Option Addr) (len : Nat) (l : List Nat) : Prop where
  length : l.length = len
  cell : ∀ i, i < len → ∃ b off, a = some ⟨b, off, none⟩ ∧ b < w.heap.size ∧ w.cell? ⟨b, off + i, none⟩ = some (.int .u8 ((l.getD i 0 : Nat) : Int))
  dig : D.Dig l

theorem Rd.take {w : World} {a : Option Addr} {len : Nat} {l : List Nat} (h : Rd w a len l) {k : Nat} (hk : k ≤ len) : Rd w a k (l.take k) := by
  refine ⟨by have := h.length; simp; omega, fun i hi => ?_, h.dig.take k⟩
  obtain ⟨b, off, e, hb, hc⟩ := h.cell i (by omega)
  refine ⟨b, off, e, hb, ?_⟩
  rw [hc]
  simp [hi]

theorem Rd.trim {w : World} {a : Option Addr} {len : Nat} {l : List Nat} (h : Rd w a len l) : Rd w a (D.trimL l).length (D.trimL l) := by
  have := h.take (k := (D.trimL l).length) (by have := D.trimL_len l; have := h.length; omega)
  rwa [D.trimL_take] at this

theorem Rd.below {w w' : World} {a : Option Addr} {len : Nat} {l : List Nat} (h : Rd w a len l) (hb : Below w.heap.size w w') : Rd w' a len l := by
  refine ⟨h.length, fun i hi => ?_, h.dig⟩
  obtain ⟨b, off, e, hlt, hc⟩ := h.cell i hi
  exact ⟨b, off, e, Nat.lt_of_lt_of_le hlt hb.size, by rw [hb.cell (p := ⟨b, off + i, none⟩) hlt]; exact hc⟩

theorem Rd.nil (w : World) (a : Option Addr) : Rd w a 0 [] := ⟨rfl, fun i hi => absurd hi (by omega), D.Dig.nil⟩

/-- A row of bytes among the call's own blocks. -/
structure Own (w : World) (g : Nat) (L : List Nat) : Prop where
  lt : g < w.heap.size
  cell : ∀ j, j < L.length → w.cell? ⟨g, j, none⟩ = some (.int .u8 ((L.getD j 0 : Nat) : Int))
  free : ∀ o, w.frozen? ⟨g, o, none⟩ = false

theorem Own.rd {w : World} {g : Nat} {L : List Nat} (h : Own w g L) (hd : D.Dig L) : Rd w (some ⟨g, 0, none⟩) L.length L :=
  ⟨rfl, fun i hi => ⟨g, 0, rfl, h.lt, by rw [Nat.zero_add]; exact h.cell i hi⟩, hd⟩

theorem Own.below {w w' : World} {g : Nat} {L : List Nat} (h : Own w g L) {B : Nat} (hb : Below B w w') (hg : g < B) : Own w' g L :=
  ⟨Nat.lt_of_lt_of_le h.lt hb.size, fun j hj => by rw [hb.cell (p := ⟨g, j, none⟩) hg]; exact h.cell j hj, fun o => by rw [hb.frozen (p := ⟨g, o, none⟩) hg]; exact h.free o⟩

theorem cell_lt {w : World} {p : Addr} {v : Value} (h : w.cell? p = some v) : p.block < w.heap.size := by
  unfold World.cell? at h
  cases hh : w.heap[p.block]? with
  | none => rw [hh] at h; simp at h
  | some o => exact (Array.getElem?_eq_some_iff.1 hh).1

theorem cell_far {w : World} {g o b o' : Nat} {u : Value} (h : b ≠ g) : (w.setCell ⟨g, o, none⟩ u).cell? ⟨b, o', none⟩ = w.cell? ⟨b, o', none⟩ :=
  World.cell?_of_block (w := w) (Below.heap_setCell _ _ _ _ h)

theorem Own.set {w : World} {g : Nat} {L : List Nat} (h : Own w g L) {k : Nat} (hk : k < L.length) (v : Nat) :
    Own (w.setCell ⟨g, k, none⟩ (.int .u8 (v : Int))) g (L.set k v) := by
  refine ⟨by simpa [World.setCell] using h.lt, fun j hj => ?_, fun o => by rw [World.frozen?_setCell]; exact h.free o⟩
  have hj' : j < L.length := by simpa using hj
  by_cases e : j = k
  · subst e
    rw [World.cell?_setCell_same (h := h.cell j hj')]
    simp [hj']
  · have hne : (⟨g, k, none⟩ : Addr) ≠ ⟨g, j, none⟩ := by
      intro e'
      injection e' with _ e2
      exact e e2.symm
    rw [World.cell?_setCell_other (h := hne), h.cell j hj']
    simp [List.getElem?_set, Ne.symm e]

theorem Own.setI {w : World} {g : Nat} {L : List Nat} (h : Own w g L) {k : Nat} (hk : k < L.length) (v : Nat) {i : Int} (e : i = (v : Int)) :
    Own (w.setCell ⟨g, k, none⟩ (.int .u8 i)) g (L.set k v) := by
  subst e; exact h.set hk v

theorem Own.drew {w : World} {g : Nat} {L : List Nat} (h : Own w g L) : Own w.drew g L := ⟨h.lt, h.cell, h.free⟩

theorem eqnil26 (w : World) (a : Option Addr) (n c n' c' : Nat) : (binOp .eql 26 (.slice a n c) (.slice none n' c')).run Safg.prog w = .ok (.bool a.isNone) w := Lib.run_eql_slice_nil w _ _ a n c n' c' Safg.underlying26
theorem nenil26 (w : World) (a : Option Addr) (n c n' c' : Nat) : (binOp .neq 26 (.slice a n c) (.slice none n' c')).run Safg.prog w = .ok (.bool (!a.isNone)) w := run_neq_slice_nil_any w _ _ a n c n' c' Safg.underlying26
theorem eqnil98 (w : World) (a : Option Addr) (n c n' c' : Nat) : (binOp .eql 98 (.slice a n c) (.slice none n' c')).run Safg.prog w = .ok (.bool a.isNone) w := Lib.run_eql_slice_nil w _ _ a n c n' c' Safg.underlying98
theorem nenil98 (w : World) (a : Option Addr) (n c n' c' : Nat) : (binOp .neq 98 (.slice a n c) (.slice none n' c')).run Safg.prog w = .ok (.bool (!a.isNone)) w := run_neq_slice_nil_any w _ _ a n c n' c' Safg.underlying98

theorem ret_slice {a : Option Addr} {l l' c c' : Nat} (h : l = l') (h' : c = c') : Ending.returned (.slice a l c) = .returned (.slice a l' c') := by rw [h, h']
theorem ret_bool {a b : Bool} (h : a = b) : Ending.returned (.bool a) = .returned (.bool b) := by rw [h]
theorem ret_int {k : IntKind} {a b : Int} (h : a = b) : Ending.returned (.int k a) = .returned (.int k b) := by rw [h]

theorem Safg.info5 : (Safg.prog.info? 5).map (fun i => (i.zero, i.size, i.bytes)) = some (some (.int .u8 0), 1, 1) := by kernel_rfl

theorem Own.made (w : World) (n : Nat) : Own (w.alloc (.cells (madeCells (Value.int .u8 0).cells (n * 1)) 5)) w.heap.size (List.replicate n 0) := by
  refine ⟨by simp, fun j hj => ?_, fun o => ?_⟩
  · have hj' : j < n := by simpa using hj
    unfold World.cell?
    rw [heap_alloc_new]
    rw [Nat.mul_one]
    have e : (madeCells (Value.int .u8 0).cells n)[j]? = some (.int .u8 0) := by
      rw [← Array.getElem?_toList]
      show (madeCells #[Value.int .u8 0] n).toList[j]? = _
      rw [toList_madeCells_one]
      simp [hj']
    simp [e, hj']
  · unfold World.frozen?
    rw [heap_alloc_new]
    simp

/-- 'make([]byte, n)': n zero bytes of the call's own. -/
theorem wpList_make_bytes (w : World) {ops : Array Oper} {rest : List Oper} {o : Oper} {a : Act} {Q : Exit → Act → World → Prop}
    (hg : o.guard = none) (l c : Operand) (t : TypeId) (hop : o.op = Op.makeSlice t l c) (h1 : Safg.prog.underlying t = some (.slice 5))
    (kl kc : IntKind) (L C : Int) (n : Nat) (hl : a.eval l = .int kl L) (hc : a.eval c = .int kc C) (hL : L = (n : Int)) (hC : C = (n : Int)) (b2 : n ≤ 281474976710656)
    (hK : ∀ w' g, w.heap.size ≤ g → Own w' g (List.replicate n 0) → Below w.heap.size w w' → wpList Safg.prog ops Q rest (a.put o.dst (.slice (some ⟨g, 0, none⟩) n n)) w') :
    wpList Safg.prog ops Q (o :: rest) a w := by
  refine wpList_plain hg fun K hK' => ?_
  obtain ⟨i, h2, h3, h4, h5⟩ := info_parts Safg.info5
  have hrun := run_make (P := Safg.prog) w t 5 i _ h1 h2 h3 kl kc (n : Int) (n : Int) (by omega) (Int.le_refl _) (by rw [h5]; omega) (by omega)
  subst hL
  subst hC
  unfold Oper.wp
  simp [execOp, hop, hl, hc, hrun, Result.andThen]
  refine hK' _ _ (hK _ _ (Nat.le_refl _) ?_ ?_)
  · rw [h4]; exact Own.made w n
  · exact (Below.refl _ _).alloc (Nat.le_refl _) _

end Go.Proofs.YgcsafGreat
