/-
  FROM AN ARGUMENT's READING: an array of 32 bytes that came in by value.
-/
import Derived.Test.YgcsafGreatArr
import Derived.ProofKit
import Derived.OpenShut
import Derived.ShutString
import Derived.ChangeOld
import Derived.Below
import Derived.SizedLaws
namespace Go.Proofs.YgcsafGreat
open Go.ChangeShapes Go.WideShapes Go.ChangeAt Go.RowKit
set_option linter.unusedVariables false
set_option linter.unusedSimpArgs false

theorem own : ownKnob Safg.prog.godebug = none := by kernel_rfl
theorem laidOut : laidOutB Safg.prog = true := by kernel_rfl
theorem Safg.cells5 : Safg.prog.cellsOf 5 = 1 := by kernel_rfl
theorem Safg.cells22 : Safg.prog.cellsOf 22 = 32 := by kernel_rfl
theorem Safg.arr22 : Safg.prog.underlying 22 = some (.array 32 5) := by kernel_rfl
theorem Safg.int5 : Safg.prog.underlying 5 = some (.int .u8) := by kernel_rfl
theorem wf_u8 {n : Int} (h : (Lit.int .u8 n).wf = true) : 0 ≤ n ∧ n < 256 := by
  have := bounds_u8 h
  omega
theorem okWide_array {P : Program} {W : World} {r : Reach} {base : Nat} {t e : TypeId} {n : Nat} {v : Value} (ht : P.underlying t = some (.array n e)) (h : Value.okWide P W r base t v) : ∃ cs, v = .agg cs := by
  simp only [Value.okWide, ht] at h
  obtain ⟨cs, h1, _⟩ := h
  exact ⟨cs, h1⟩
theorem one_cell {cs : List Value} {k : Nat} {v : Value} (h : (cs.drop k).take 1 = [v]) : cs[k]? = some v := by
  cases hd : cs.drop k with
  | nil => rw [hd] at h; simp at h
  | cons x l =>
    rw [hd] at h
    simp at h
    have : (cs.drop k)[0]? = some x := by rw [hd]; rfl
    rw [List.getElem?_drop] at this
    simpa [h] using this
theorem open_arr32 {H : Type} {enc : TypeId × Value → H} {W : World} {C : Array Value} {d : DataW H} {p : List MemPlace}
    (h : DataW.Trod enc Safg.prog W 0 (fun _ => true) true 22 (.agg C) d p) : ∃ L : List Nat, Value.agg C = arrV L ∧ L.length = 32 ∧ D.Dig L := by
  obtain ⟨fuel, hf0⟩ := h
  have hf1 : DataW.trod enc Safg.prog W 0 (fun _ => true) true fuel 22 C.toList = some (d, p) := hf0
  obtain ⟨ys, q, _, _, hlen, hyl, hy⟩ := DataW.trod_array Safg.arr22 hf1
  rw [Safg.cells22] at hlen
  have hint : ∀ j, j < 32 → ∃ k : Nat, C.toList[j]? = some (.int .u8 (k : Int)) ∧ k < 256 := by
    intro j hj
    have hyj := hy j hj
    rw [Safg.cells5, Nat.mul_one, List.getElem?_eq_getElem (show j < ys.length by omega)] at hyj
    obtain ⟨k, hk, _, hw⟩ := DataW.trod_int Safg.int5 hyj
    have hb := wf_u8 hw
    have hc := one_cell hk
    refine ⟨k.toNat, ?_, by omega⟩
    rw [hc, Int.toNat_of_nonneg hb.1]
  refine ⟨(List.range 32).map fun j => match C.toList.getD j undef with | .int _ k => k.toNat | _ => 0, ?_, by simp, ?_⟩
  · unfold arrV
    congr 1
    apply Array.toList_inj.1
    rw [List.toList_toArray]
    apply List.ext_getElem?
    intro j
    by_cases hj : j < 32
    · obtain ⟨k, hk, _⟩ := hint j hj
      rw [hk, cellsL, List.getElem?_map, List.getElem?_map, List.getElem?_range hj]
      simp only [Option.map_some, List.getD_eq_getElem?_getD, hk, Option.getD_some, Int.toNat_natCast]
    · rw [List.getElem?_eq_none (by omega), List.getElem?_eq_none (by rw [cellsL_length]; simp; omega)]
  · intro x hx
    obtain ⟨j, hj, rfl⟩ := List.mem_map.1 hx
    obtain ⟨k, hk, hk2⟩ := hint j (List.mem_range.1 hj)
    simp only [List.getD_eq_getElem?_getD, hk, Option.getD_some, Int.toNat_natCast]
    exact hk2
end Go.Proofs.YgcsafGreat
