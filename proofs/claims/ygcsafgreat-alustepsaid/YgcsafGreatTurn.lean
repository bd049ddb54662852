/-
  MEMORY OF A SCRIPT's PLAY: which blocks a call turns ('Turn'); rows of the call's own with spare room ('RowV'); 'clear'.
-/
import Derived.Test.YgcsafGreatNorm
import Derived.ArgAppend
import Derived.Deep.MidRow
namespace Go.Proofs.YgcsafGreat
open Go.RowKit
set_option linter.unusedVariables false
set_option linter.unusedSimpArgs false

/-- Only the blocks of S, and new ones, have turned. -/
structure Turn (S : List Nat) (w w' : World) : Prop where
  os : w'.os = w.os
  tape : w'.tape = w.tape
  output : w'.output = w.output
  size : w.heap.size ≤ w'.heap.size
  block : ∀ k, k < w.heap.size → k ∉ S → w'.heap[k]? = w.heap[k]?

namespace Turn
theorem refl (S : List Nat) (w : World) : Turn S w w := ⟨rfl, rfl, rfl, Nat.le_refl _, fun _ _ _ => rfl⟩
theorem trans {S : List Nat} {a b c : World} (h : Turn S a b) (k : Turn S b c) : Turn S a c :=
  ⟨k.os.trans h.os, k.tape.trans h.tape, k.output.trans h.output, Nat.le_trans h.size k.size, fun i hi hs => (k.block i (Nat.lt_of_lt_of_le hi h.size) hs).trans (h.block i hi hs)⟩
/-- Behind h also blocks that were new there may turn. -/
theorem then_ {S S' : List Nat} {a b c : World} (h : Turn S a b) (k : Turn S' b c) (hs : ∀ i, i ∈ S' → i < a.heap.size → i ∈ S) : Turn S a c :=
  ⟨k.os.trans h.os, k.tape.trans h.tape, k.output.trans h.output, Nat.le_trans h.size k.size, fun i hi hn => (k.block i (Nat.lt_of_lt_of_le hi h.size) (fun hm => hn (hs i hm hi))).trans (h.block i hi hn)⟩
theorem mono {S S' : List Nat} {a b : World} (h : Turn S a b) (hs : ∀ i, i ∈ S → i ∈ S') : Turn S' a b :=
  ⟨h.os, h.tape, h.output, h.size, fun i hi hn => h.block i hi (fun hm => hn (hs i hm))⟩
theorem of_below {w w' : World} {B : Nat} (h : Below B w w') (hB : w.heap.size ≤ B) (S : List Nat) : Turn S w w' :=
  ⟨h.1, h.2, h.3, h.size, fun k hk _ => h.5 k (by omega)⟩
theorem of_only {g : Nat} {w w' : World} (h : Only g w w') : Turn [g] w w' :=
  ⟨h.os, h.tape, h.output, by rw [h.size]; exact Nat.le_refl _, fun k _ hs => h.block k (by simpa using hs)⟩
theorem of_same {w w' : World} (hos : w'.os = w.os) (ht : w'.tape = w.tape) (ho : w'.output = w.output) (hh : w'.heap = w.heap) (S : List Nat) : Turn S w w' :=
  ⟨hos, ht, ho, by rw [hh]; exact Nat.le_refl _, fun k _ _ => by rw [hh]⟩
theorem below {S : List Nat} {w w' : World} (h : Turn S w w') {B : Nat} (hB : B ≤ w.heap.size) (hs : ∀ i, i ∈ S → B ≤ i) : Below B w w' :=
  ⟨h.os, h.tape, h.output, h.size, fun k hk => h.block k (by omega) (fun hm => by have := hs k hm; omega)⟩
theorem cell {S : List Nat} {w w' : World} (h : Turn S w w') {p : Addr} (hp : p.block < w.heap.size) (hn : p.block ∉ S) : w'.cell? p = w.cell? p := World.cell?_of_block (w := w) (h.block p.block hp hn)
theorem frozen {S : List Nat} {w w' : World} (h : Turn S w w') {p : Addr} (hp : p.block < w.heap.size) (hn : p.block ∉ S) : w'.frozen? p = w.frozen? p := World.frozen?_of_block (w := w) (h.block p.block hp hn)
theorem own {S : List Nat} {w w' : World} {g : Nat} {L : List Nat} (h : Turn S w w') (ho : Own w g L) (hn : g ∉ S) : Own w' g L :=
  ⟨Nat.lt_of_lt_of_le ho.lt h.size, fun j hj => by rw [h.cell (p := ⟨g, j, none⟩) ho.lt hn]; exact ho.cell j hj, fun o => by rw [h.frozen (p := ⟨g, o, none⟩) ho.lt hn]; exact ho.free o⟩
theorem of_grownBy {w w' : World} {row : Option Nat} (h : w.grownBy w' row) (S : List Nat) (hs : ∀ k, row = some k → k ∈ S) : Turn S w w' :=
  ⟨h.os, h.tape, h.output, h.size, fun k hk hn => h.block k hk (fun e => hn (hs k e.symm))⟩
end Turn

/-- A row of the call's own: block g, cells vs, room for cap. -/
structure RowV (w : World) (g cap : Nat) (vs : List Value) : Prop where
  lt : g < w.heap.size
  le : vs.length ≤ cap
  cell : ∀ j v, vs[j]? = some v → w.cell? ⟨g, j, none⟩ = some v
  room : ∀ j, j < cap → (w.cell? ⟨g, j, none⟩).isSome = true
  free : ∀ o, w.frozen? ⟨g, o, none⟩ = false

namespace RowV
theorem turn {S : List Nat} {w w' : World} {g cap : Nat} {vs : List Value} (h : RowV w g cap vs) (t : Turn S w w') (hn : g ∉ S) : RowV w' g cap vs :=
  ⟨Nat.lt_of_lt_of_le h.lt t.size, h.le, fun j v hv => by rw [t.cell (p := ⟨g, j, none⟩) h.lt hn]; exact h.cell j v hv,
    fun j hj => by rw [t.cell (p := ⟨g, j, none⟩) h.lt hn]; exact h.room j hj, fun o => by rw [t.frozen (p := ⟨g, o, none⟩) h.lt hn]; exact h.free o⟩
theorem take {w : World} {g cap : Nat} {vs : List Value} (h : RowV w g cap vs) (k : Nat) : RowV w g cap (vs.take k) :=
  ⟨h.lt, by have := h.le; simp; omega, fun j v hv => h.cell j v (by
    rw [List.getElem?_take] at hv
    split at hv
    · exact hv
    · cases hv), h.room, h.free⟩
theorem get {w : World} {g cap : Nat} {vs : List Value} (h : RowV w g cap vs) {j : Nat} (hj : j < vs.length) : w.cell? ⟨g, j, none⟩ = some vs[j] := h.cell j _ (List.getElem?_eq_getElem hj)
theorem of_ownsRow {w : World} {base : Nat} {e : TypeId} {v : Value} {n : Nat} {xs : List Value} (h : w.ownsRow base e 1 v n xs) (hx : xs ≠ []) :
    ∃ g cap, v = .slice (some ⟨g, 0, none⟩) n cap ∧ base ≤ g ∧ RowV w g cap xs ∧ cap ≤ maxLen ∧ xs.length = n := by
  obtain ⟨hl, h | ⟨g, cap, cur, rfl, hb, hg, hn, hm, hs, ht⟩⟩ := h
  · exact absurd (List.eq_nil_of_length_eq_zero (by rw [hl, h.2])) hx
  · rw [Nat.mul_one] at hl hs ht
    refine ⟨g, cap, rfl, hb, ⟨(Array.getElem?_eq_some_iff.1 hg).1, by omega, fun j v hv => ?_, fun j hj => ?_, fun o => ?_⟩, hm, hl⟩
    · rw [cell_of_row w g j cur e (0, 0) hg]
      rw [← ht, List.getElem?_take] at hv
      split at hv
      · simpa using hv
      · cases hv
    · rw [cell_of_row w g j cur e (0, 0) hg]
      rw [Array.getElem?_eq_getElem (by omega)]; rfl
    · unfold World.frozen?
      rw [hg]
      simp
/-- What lies where cells are laid at off. -/
def laid (vs : List Value) (off : Nat) (news : List Value) : List Value := vs.take off ++ (news ++ vs.drop (off + news.length))
theorem laid_get {vs news : List Value} {off : Nat} (ho : off ≤ vs.length) (j : Nat) : (laid vs off news)[j]? = if j < off then vs[j]? else if j < off + news.length then news[j - off]? else vs[j]? := by
  unfold laid
  rw [List.getElem?_append, List.getElem?_append, List.getElem?_drop, List.getElem?_take]
  simp only [List.length_take, Nat.min_eq_left ho]
  split
  · rfl
  · split
    · rw [if_pos (by omega)]
    · rw [if_neg (by omega)]; congr 1; omega
theorem laid_length {vs news : List Value} {off : Nat} (ho : off ≤ vs.length) : (laid vs off news).length = max vs.length (off + news.length) := by
  simp [laid]; omega
theorem lay {w : World} {g cap : Nat} {vs : List Value} (h : RowV w g cap vs) (off : Nat) (news : List Value) (ho : off ≤ vs.length) (hc : off + news.length ≤ cap) : RowV (w.setCells g off news) g cap (laid vs off news) := by
  refine ⟨?_, by rw [laid_length ho]; have := h.le; omega, fun j v hv => ?_, fun j hj => World.isSome_setCells g news off w _ (h.room j hj), fun o => by rw [World.frozen?_setCells]; exact h.free o⟩
  · have := (Only.setCells (g := g) news (a := w) (w := w) off (Only.refl _ _)).size
    rw [this]; exact h.lt
  · rw [laid_get ho] at hv
    by_cases h1 : off ≤ j ∧ j < off + news.length
    · rw [if_neg (by omega), if_pos h1.2] at hv
      have := World.cell?_setCells_in g news off w (fun i hi => h.room (off + i) (by omega)) (j - off) (by omega)
      rw [show off + (j - off) = j by omega] at this
      rw [this, ← hv, List.getElem?_eq_getElem (by omega)]
    · rw [World.cell?_setCells_out g news off w ⟨g, j, none⟩ (fun _ _ => by show j < off ∨ _ ≤ j; omega)]
      refine h.cell j v ?_
      split at hv
      · exact hv
      · rw [if_neg (by omega)] at hv; exact hv
theorem lay_end {w : World} {g cap : Nat} {vs : List Value} (h : RowV w g cap vs) (news : List Value) (hc : vs.length + news.length ≤ cap) : RowV (w.setCells g vs.length news) g cap (vs ++ news) := by
  have := h.lay vs.length news (Nat.le_refl _) hc
  have e : laid vs vs.length news = vs ++ news := by
    unfold laid
    rw [List.take_length, List.drop_eq_nil_of_le (by omega), List.append_nil]
  rwa [e] at this
end RowV

/-- A slice of the call's own, or nil. -/
def Vec (B : Nat) (w : World) (v : Value) (vs : List Value) : Prop :=
  (v = .slice none 0 0 ∧ vs = []) ∨ ∃ g cap, v = .slice (some ⟨g, 0, none⟩) vs.length cap ∧ B ≤ g ∧ RowV w g cap vs ∧ cap ≤ maxLen

theorem Vec.turn {S : List Nat} {B : Nat} {w w' : World} {v : Value} {vs : List Value} (h : Vec B w v vs) (t : Turn S w w') (hn : ∀ g, v.ownBlock = some g → g ∉ S) : Vec B w' v vs := by
  rcases h with h | ⟨g, cap, rfl, hB, r, hm⟩
  · exact .inl h
  · exact .inr ⟨g, cap, rfl, hB, r.turn t (hn g rfl), hm⟩

theorem wpList_append_vec {w : World} {ops : Array Oper} {rest : List Oper} {o : Oper} {a : Act} {Q : Exit → Act → World → Prop} (hgd : o.guard = none) (s x : Operand) (t : TypeId)
    (ho : o.op = .call { callee := .builtin .append, args := #[s, x], argTypes := #[t, t] })
    (B : Nat) (e : TypeId) (i : TypeInfo) (z : Value) (bytes : Nat) (ht : Safg.prog.underlying t = some (.slice e)) (hi : Safg.prog.info? e = some i) (hz : i.zero = some z)
    (hsize : i.size = 1) (hby : i.bytes = bytes) (hzs : z.cells.size = 1)
    (v : Value) (vs : List Value) (hs : a.eval s = v) (hv : Vec B w v vs)
    (ad : Addr) (m c : Nat) (news : List Value) (hx : a.eval x = .slice (some ad) m c) (hl : news.length = m) (hnews : ∀ j u, news[j]? = some u → w.cell? (ad.add j) = some u) (h1 : ∀ u ∈ news, u.oneCell' = true)
    (hm : 0 < m) (h63 : vs.length + m ≤ maxLen) (hbytes : (vs.length + m) * bytes ≤ 140737488355328) (hB : B ≤ w.heap.size)
    (h : ∀ g cap w', B ≤ g → RowV w' g cap (vs ++ news) → cap ≤ maxLen → Turn v.ownBlock.toList w w' → (v.ownBlock = some g ∨ w.heap.size ≤ g) → wpList Safg.prog ops Q rest (a.put o.dst (.slice (some ⟨g, 0, none⟩) (vs.length + m) cap)) w') :
    wpList Safg.prog ops Q (o :: rest) a w := by
  have hne : vs ++ news ≠ [] := by
    intro e
    have := congrArg List.length e
    rw [List.length_append, hl] at this
    have h0 : ([] : List Value).length = 0 := rfl
    omega
  rcases hv with ⟨rfl, rfl⟩ | ⟨g, cap, rfl, hg, r, hcm⟩
  · refine wpList_append_own w hgd s x t ho w.heap.size e i z 1 bytes ht hi hz hsize hby hzs (by omega) (.slice none 0 0) 0 [] hs (World.ownsRow_nil _ _ _ _) ad m c news hx (by omega) hnews h1 (by simpa using h63) (by simpa using hbytes) (Nat.le_refl _) ?_
    intro v' w' own gr _
    obtain ⟨g, cap, rfl, hb, r, hcm, hl'⟩ := RowV.of_ownsRow own hne
    have := h g cap w' (by omega) r hcm (Turn.of_grownBy gr _ (fun k hk => by cases hk)) (.inr hb)
    simpa using this
  · refine wpList_append_arg w hgd s x t ho e i z 1 bytes ht hi hz hsize hby hzs (by omega) g 0 vs.length cap vs hs (by omega) (fun j u hu => by rw [Nat.zero_add]; exact r.cell j u hu) ad m c news hx (by omega) hnews h1
      (fun hr j hj => by rw [Nat.zero_add, Nat.mul_one]; exact ⟨r.room _ (by omega), r.free _⟩) h63 hbytes ?_ ?_
    · intro hr
      have := h g cap (w.setCells g (0 + vs.length * 1) news) hg (by rw [Nat.zero_add, Nat.mul_one]; exact r.lay_end news (by omega)) hcm (Turn.of_only (Only.setCells news _ (Only.refl g w))) (.inl rfl)
      exact this
    · intro hr v' w' own gr
      obtain ⟨g', cap', rfl, hb, r', hcm', hl'⟩ := RowV.of_ownsRow own hne
      exact h g' cap' w' (by omega) r' hcm' (Turn.of_grownBy gr _ (fun k hk => by cases hk)) (.inr hb)
end Go.Proofs.YgcsafGreat
