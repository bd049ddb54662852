/-
  A running machine: what its cells say.
-/
import Derived.Test.YgcsafGreatMB
import Derived.Test.YgcsafGreatFill
namespace Go.Proofs.YgcsafGreat
open Go.RowKit
set_option linter.unusedVariables false
set_option linter.unusedSimpArgs false

/-- What a running machine's cells say. -/
structure MF (f : Nat → Value) (gv pc sp gas : Nat) (ws : Nat → Wd4) (cv : Value) (Ls Lc : List Nat) : Prop where
  s : f 0 = .pointer (some ⟨gv, 0, none⟩)
  buf : f 1 = .slice none 0 0
  base0 : f 2 = .int .u32 0
  base1 : f 3 = .int .u32 0
  mtop : f 10 = .int .u8 1
  stack : ∀ i, i < 1792 → ∃ x : Nat, f (11 + i) = .int .u64 (x : Int)
  words : ∀ j, j < sp → ∀ i v, (ws j).cells[i]? = some v → f (11 + 4 * j + i) = v
  native : f 1805 = .int .u8 0
  static : f 1806 = .bool false
  hpc : f 1807 = .int .u16 (pc : Int)
  sbase : f 1808 = .int .u16 0
  hsp : f 1809 = .int .u16 (sp : Int)
  hgas : f 1810 = .int .u64 (gas : Int)
  self : ∀ i v, (cellsL Ls)[i]? = some v → f (1812 + i) = v
  caller : ∀ i v, (cellsL Lc)[i]? = some v → f (1832 + i) = v
  code : f 1856 = cv
  top : f 2258 = .int .i8 0
  ret : f 2259 = .slice none 0 0
  phase : f 2404 = .int .u8 1
  lS : Ls.length = 20
  lC : Lc.length = 20
  dS : D.Dig Ls
  dC : D.Dig Lc
  ok : ∀ j, j < sp → (ws j).Ok
namespace MF
variable {f : Nat → Value} {gv pc sp gas : Nat} {ws : Nat → Wd4} {cv : Value} {Ls Lc : List Nat}
theorem cell4 {b : Wd4} {i : Nat} {v : Value} (h : b.cells[i]? = some v) : i < 4 := (List.getElem?_eq_some_iff.1 h).1
theorem cell20 {L : List Nat} (hl : L.length = 20) {i : Nat} {v : Value} (h : (cellsL L)[i]? = some v) : i < 20 := by
  have := (List.getElem?_eq_some_iff.1 h).1
  rw [cellsL_length, hl] at this; exact this
/-- The frame's cell k, one of pc, sp, gas, is laid. -/
theorem setGas (h : MF f gv pc sp gas ws cv Ls Lc) (hs : sp ≤ 448) (g : Nat) : MF (upd f 1810 (.int .u64 (g : Int))) gv pc sp g ws cv Ls Lc :=
  ⟨h.s, h.buf, h.base0, h.base1, h.mtop, fun i hi => by rw [upd_ne _ _ (by omega)]; exact h.stack i hi, fun j hj i v hv => by have := cell4 hv; rw [upd_ne _ _ (by omega)]; exact h.words j hj i v hv, h.native, h.static, h.hpc, h.sbase, h.hsp, upd_same _ _ _, fun i v hv => by have := cell20 h.lS hv; rw [upd_ne _ _ (by omega)]; exact h.self i v hv, fun i v hv => by have := cell20 h.lC hv; rw [upd_ne _ _ (by omega)]; exact h.caller i v hv, h.code, h.top, h.ret, h.phase, h.lS, h.lC, h.dS, h.dC, h.ok⟩
theorem setPc (h : MF f gv pc sp gas ws cv Ls Lc) (hs : sp ≤ 448) (g : Nat) : MF (upd f 1807 (.int .u16 (g : Int))) gv g sp gas ws cv Ls Lc :=
  ⟨h.s, h.buf, h.base0, h.base1, h.mtop, fun i hi => by rw [upd_ne _ _ (by omega)]; exact h.stack i hi, fun j hj i v hv => by have := cell4 hv; rw [upd_ne _ _ (by omega)]; exact h.words j hj i v hv, h.native, h.static, upd_same _ _ _, h.sbase, h.hsp, h.hgas, fun i v hv => by have := cell20 h.lS hv; rw [upd_ne _ _ (by omega)]; exact h.self i v hv, fun i v hv => by have := cell20 h.lC hv; rw [upd_ne _ _ (by omega)]; exact h.caller i v hv, h.code, h.top, h.ret, h.phase, h.lS, h.lC, h.dS, h.dC, h.ok⟩
/-- Fewer words are looked at. -/
theorem setSp (h : MF f gv pc sp gas ws cv Ls Lc) (hs : sp ≤ 448) (g : Nat) (hg : g ≤ sp) : MF (upd f 1809 (.int .u16 (g : Int))) gv pc g gas ws cv Ls Lc :=
  ⟨h.s, h.buf, h.base0, h.base1, h.mtop, fun i hi => by rw [upd_ne _ _ (by omega)]; exact h.stack i hi, fun j hj i v hv => by have := cell4 hv; rw [upd_ne _ _ (by omega)]; exact h.words j (by omega) i v hv, h.native, h.static, h.hpc, h.sbase, upd_same _ _ _, h.hgas, fun i v hv => by have := cell20 h.lS hv; rw [upd_ne _ _ (by omega)]; exact h.self i v hv, fun i v hv => by have := cell20 h.lC hv; rw [upd_ne _ _ (by omega)]; exact h.caller i v hv, h.code, h.top, h.ret, h.phase, h.lS, h.lC, h.dS, h.dC, fun j hj => h.ok j (by omega)⟩
/-- The words with word k laid. -/
def lay (ws : Nat → Wd4) (k : Nat) (b : Wd4) : Nat → Wd4 := fun j => if j = k then b else ws j
/-- The word at k is laid, k words stay below it, and the frame's SP says k + 1. -/
theorem push (h : MF f gv pc sp gas ws cv Ls Lc) (hs : sp ≤ 448) (k : Nat) (hk : k ≤ sp) (hk4 : k < 448) (b : Wd4) (hb : b.Ok) : MF (upd (updL f (11 + 4 * k) b.cells) 1809 (.int .u16 ((k + 1 : Nat) : Int))) gv pc (k + 1) gas (lay ws k b) cv Ls Lc := by
  have out : ∀ o, o < 11 ∨ 1803 ≤ o → o ≠ 1809 → upd (updL f (11 + 4 * k) b.cells) 1809 (.int .u16 ((k + 1 : Nat) : Int)) o = f o := fun o h1 h2 => by
    rw [upd_ne _ _ h2, updL_out _ _ (by show o < 11 + 4 * k ∨ 11 + 4 * k + 4 ≤ o; omega)]
  refine ⟨(out _ (by omega) (by omega)).trans h.s, (out _ (by omega) (by omega)).trans h.buf, (out _ (by omega) (by omega)).trans h.base0, (out _ (by omega) (by omega)).trans h.base1, (out _ (by omega) (by omega)).trans h.mtop, fun i hi => ?_, fun j hj i v hv => ?_, (out _ (by omega) (by omega)).trans h.native, (out _ (by omega) (by omega)).trans h.static, (out _ (by omega) (by omega)).trans h.hpc, (out _ (by omega) (by omega)).trans h.sbase, upd_same _ _ _, (out _ (by omega) (by omega)).trans h.hgas, fun i v hv => ?_, fun i v hv => ?_, (out _ (by omega) (by omega)).trans h.code, (out _ (by omega) (by omega)).trans h.top, (out _ (by omega) (by omega)).trans h.ret, (out _ (by omega) (by omega)).trans h.phase, h.lS, h.lC, h.dS, h.dC, fun j hj => ?_⟩
  · rw [upd_ne _ _ (by omega)]
    by_cases e : 4 * k ≤ i ∧ i < 4 * k + 4
    · obtain ⟨d, hd, hd4⟩ : ∃ d, i = 4 * k + d ∧ d < 4 := ⟨i - 4 * k, by omega, by omega⟩
      subst hd
      rw [show 11 + (4 * k + d) = 11 + 4 * k + d by omega]
      match d, hd4 with
      | 0, _ => exact ⟨b.x0, updL_in _ _ rfl⟩
      | 1, _ => exact ⟨b.x1, updL_in _ _ rfl⟩
      | 2, _ => exact ⟨b.x2, updL_in _ _ rfl⟩
      | 3, _ => exact ⟨b.x3, updL_in _ _ rfl⟩
    · rw [updL_out _ _ (by show 11 + i < 11 + 4 * k ∨ 11 + 4 * k + 4 ≤ 11 + i; omega)]; exact h.stack i hi
  · have i4 := cell4 hv
    rw [upd_ne _ _ (by omega)]
    by_cases e : j = k
    · subst e
      rw [lay, if_pos rfl] at hv
      exact updL_in _ _ hv
    · rw [lay, if_neg e] at hv
      rw [updL_out _ _ (by show 11 + 4 * j + i < 11 + 4 * k ∨ 11 + 4 * k + 4 ≤ 11 + 4 * j + i; omega)]
      exact h.words j (by omega) i v hv
  · have := cell20 h.lS hv; rw [out _ (by omega) (by omega)]; exact h.self i v hv
  · have := cell20 h.lC hv; rw [out _ (by omega) (by omega)]; exact h.caller i v hv
  · unfold lay
    split
    · exact hb
    · exact h.ok j (by omega)
end MF
/-- A running machine. -/
structure Run (w : World) (gm gv gc : Nat) (pc sp gas : Nat) (ws : Nat → Wd4) (C Ls Lc : List Nat) : Prop where
  m : ∃ f, MB w gm f ∧ MF f gv pc sp gas ws (.slice (some ⟨gc, 0, none⟩) C.length C.length) Ls Lc
  lv : gv < w.heap.size
  cR : w.cell? ⟨gv, 24580, none⟩ = some (.int .u64 0)
  cL : w.cell? ⟨gv, 24581, none⟩ = some (.slice none 0 0)
  own : Own w gc C
  ne : gm ≠ gv
  nc : gc ≠ gm
namespace Run
variable {w w' : World} {gm gv gc pc sp gas : Nat} {ws : Nat → Wd4} {C Ls Lc : List Nat}
theorem turn {S : List Nat} (h : Run w gm gv gc pc sp gas ws C Ls Lc) (t : Turn S w w') (h1 : gm ∉ S) (h2 : gv ∉ S) (h3 : gc ∉ S) : Run w' gm gv gc pc sp gas ws C Ls Lc := by
  obtain ⟨f, m, mf⟩ := h.m
  exact ⟨⟨f, m.turn t h1, mf⟩, Nat.lt_of_lt_of_le h.lv t.size, by rw [t.cell (p := ⟨gv, 24580, none⟩) h.lv h2]; exact h.cR, by rw [t.cell (p := ⟨gv, 24581, none⟩) h.lv h2]; exact h.cL, t.own h.own h3, h.ne, h.nc⟩
theorem below (h : Run w gm gv gc pc sp gas ws C Ls Lc) (b : Below w.heap.size w w') : Run w' gm gv gc pc sp gas ws C Ls Lc :=
  h.turn (Turn.of_below b (Nat.le_refl _) []) (by simp) (by simp) (by simp)
theorem drew (h : Run w gm gv gc pc sp gas ws C Ls Lc) : Run w.drew gm gv gc pc sp gas ws C Ls Lc := h.turn (Turn.drew [] w) (by simp) (by simp) (by simp)
/-- The machine's own block has turned. -/
theorem only {pc' sp' gas' : Nat} {ws' : Nat → Wd4} (h : Run w gm gv gc pc sp gas ws C Ls Lc) (n : Only gm w w') {f : Nat → Value} (m : MB w' gm f) (mf : MF f gv pc' sp' gas' ws' (.slice (some ⟨gc, 0, none⟩) C.length C.length) Ls Lc) : Run w' gm gv gc pc' sp' gas' ws' C Ls Lc :=
  ⟨⟨f, m, mf⟩, by rw [n.size]; exact h.lv, by rw [n.cell (p := ⟨gv, 24580, none⟩) (Ne.symm h.ne)]; exact h.cR, by rw [n.cell (p := ⟨gv, 24581, none⟩) (Ne.symm h.ne)]; exact h.cL, n.own h.own h.nc, h.ne, h.nc⟩
end Run
end Go.Proofs.YgcsafGreat
