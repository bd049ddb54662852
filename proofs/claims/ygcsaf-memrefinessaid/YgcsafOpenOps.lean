/-
  FROM THE ARGUMENT's READING TO 'OpAt': a script that came in.
-/
import Derived.Test.YgcsafOpen
import Derived.Test.YgcsafRefines2
import Derived.Deep.Slices
namespace Go.Proofs.Ygcsaf
open Go.ChangeShapes Go.WideShapes Go.ChangeAt Go.RowKit Go.Deep
set_option linter.unusedVariables false
set_option linter.unusedSimpArgs false

theorem Safg.cells49 : Safg.prog.cellsOf 49 = 5 := by kernel_rfl
theorem Safg.cells38 : Safg.prog.cellsOf 38 = 1 := by kernel_rfl

theorem drop_take1 {cs : List Value} {k : Nat} {v : Value} (h : (cs.drop k).take 1 = [v]) : cs[k]? = some v := by
  cases hd : cs.drop k with
  | nil => rw [hd] at h; simp at h
  | cons x l =>
    rw [hd] at h
    simp at h
    have : (cs.drop k)[0]? = some x := by rw [hd]; rfl
    rw [List.getElem?_drop] at this
    simpa [h] using this

section
variable {H : Type} {enc : TypeId × Value → H} {W : World}

set_option maxRecDepth 100000 in
theorem open_op {n : Nat} {es : List Value} {d : DataW H} {p : List MemPlace} (h : DataW.trod enc Safg.prog W 0 (fun _ => true) true n 49 es = some (d, p)) :
    ∃ k a b m f : Nat, es = opC k a b m f ∧ k < 256 ∧ a < 4294967296 ∧ b < 4294967296 ∧ m < 4294967296 ∧ f < 256 := by
  obtain ⟨xs, m, rfl, hx, hlen, hxl, hf⟩ := DataW.trod_struct Safg.underlying49 h
  rw [Safg.cells49] at hlen
  have f0 : DataW.trod enc Safg.prog W 0 (fun _ => true) true m 5 ((es.drop 0).take (Safg.prog.cellsOf 5)) = xs[0]? := hf 0 _ rfl
  have f1 : DataW.trod enc Safg.prog W 0 (fun _ => true) true m 38 ((es.drop 1).take (Safg.prog.cellsOf 38)) = xs[1]? := hf 1 _ rfl
  have f2 : DataW.trod enc Safg.prog W 0 (fun _ => true) true m 38 ((es.drop 2).take (Safg.prog.cellsOf 38)) = xs[2]? := hf 2 _ rfl
  have f3 : DataW.trod enc Safg.prog W 0 (fun _ => true) true m 38 ((es.drop 3).take (Safg.prog.cellsOf 38)) = xs[3]? := hf 3 _ rfl
  have f4 : DataW.trod enc Safg.prog W 0 (fun _ => true) true m 5 ((es.drop 4).take (Safg.prog.cellsOf 5)) = xs[4]? := hf 4 _ rfl
  rw [Safg.cells5] at f0 f4
  rw [Safg.cells38] at f1 f2 f3
  have hxl' : xs.length = 5 := hxl
  rw [List.getElem?_eq_getElem (show 0 < xs.length by omega)] at f0
  rw [List.getElem?_eq_getElem (show 1 < xs.length by omega)] at f1
  rw [List.getElem?_eq_getElem (show 2 < xs.length by omega)] at f2
  rw [List.getElem?_eq_getElem (show 3 < xs.length by omega)] at f3
  rw [List.getElem?_eq_getElem (show 4 < xs.length by omega)] at f4
  obtain ⟨k, e0, _, w0⟩ := DataW.trod_int Safg.underlying5 f0
  obtain ⟨a, e1, _, w1⟩ := DataW.trod_int Safg.underlying38 f1
  obtain ⟨b, e2, _, w2⟩ := DataW.trod_int Safg.underlying38 f2
  obtain ⟨c, e3, _, w3⟩ := DataW.trod_int Safg.underlying38 f3
  obtain ⟨f, e4, _, w4⟩ := DataW.trod_int Safg.underlying5 f4
  have g0 := drop_take1 e0
  have g1 := drop_take1 e1
  have g2 := drop_take1 e2
  have g3 := drop_take1 e3
  have g4 := drop_take1 e4
  have r0 := bounds_u8 w0
  have r1 := bounds_u32 w1
  have r2 := bounds_u32 w2
  have r3 := bounds_u32 w3
  have r4 := bounds_u8 w4
  refine ⟨k.toNat, a.toNat, b.toNat, c.toNat, f.toNat, ?_, by omega, by omega, by omega, by omega, by omega⟩
  unfold opC
  rw [Int.toNat_of_nonneg r0.1, Int.toNat_of_nonneg r1.1, Int.toNat_of_nonneg r2.1, Int.toNat_of_nonneg r3.1, Int.toNat_of_nonneg r4.1]
  match es, hlen with
  | [x0, x1, x2, x3, x4], _ =>
    simp at g0 g1 g2 g3 g4
    rw [g0, g1, g2, g3, g4]

set_option maxRecDepth 100000 in
theorem open_ops {ad : Option Addr} {len cap : Nat} {d : DataW H} {p : List MemPlace} (h : DataW.Trod enc Safg.prog W 0 (fun _ => true) true 37 (.slice ad len cap) d p) :
    len ≤ cap ∧ cap ≤ 9223372036854775807 ∧ ∀ i, i < len → ∃ b off k a bb n f, OpAt W ad i b off k a bb n f := by
  obtain ⟨fuel, hf0⟩ := h
  rcases open_slice Safg.underlying37 hf0 with ⟨h0, _⟩ | ⟨x, l, c, mm, nn, Dd, Pl, h0, _, hl, hm, hmm, _, hel⟩
  · simp [Value.cells] at h0
    obtain ⟨rfl, rfl, rfl⟩ := h0
    exact ⟨Nat.le_refl _, by omega, fun i hi => absurd hi (by omega)⟩
  · simp [Value.cells] at h0
    obtain ⟨rfl, rfl, rfl⟩ := h0
    have hmm' : mm = cap := by rw [hmm]; rfl
    refine ⟨hl, by unfold maxLen at hm; omega, fun i hi => ?_⟩
    obtain ⟨es, hes, htr⟩ := hel i (by omega)
    rw [Safg.cells49] at hes
    obtain ⟨k, a, bb, n, f, rfl, hk, ha, hb, hn, hf⟩ := open_op htr
    obtain ⟨_, _, hcell⟩ := World.cells?_some hes
    have hspot : x.spot = none := by
      obtain ⟨es0, hes0, htr0⟩ := hel 0 (by omega)
      rw [Safg.cells49] at hes0
      obtain ⟨k0, a0, b0, n0, f0, rfl, _⟩ := open_op htr0
      obtain ⟨_, _, hcell0⟩ := World.cells?_some hes0
      have h0 := hcell0 0 (by omega)
      cases hs : x.spot with
      | none => rfl
      | some q =>
        exfalso
        unfold World.cell? Addr.add at h0
        simp [hs, opC] at h0
        revert h0
        split <;> simp
    obtain ⟨b, off, sp⟩ := x
    have hsp : sp = none := hspot
    subst hsp
    have hc : ∀ j, j < 5 → W.cell? ⟨b, off + i * 5 + j, none⟩ = (opC k a bb n f)[j]? := by
      intro j hj
      have := hcell j hj
      rwa [Addr.add_mid, Addr.add_mid] at this
    refine ⟨b, off, k, a, bb, n, f, rfl, ?_, fun j v hv => ?_, hk, ha, hb, hn, hf⟩
    · have := hc 0 (by omega)
      exact cell_lt (this.trans (opC_0 k a bb n f))
    · have hj : j < 5 := by
        have := (List.getElem?_eq_some_iff.1 hv).1
        simpa [opC] using this
      rw [hc j hj]; exact hv
end
end Go.Proofs.Ygcsaf
