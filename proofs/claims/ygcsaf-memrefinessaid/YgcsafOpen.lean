/-
  FROM AN ARGUMENT's READING TO 'Rd': a slice of bytes that came in.
-/
import Derived.Test.YgcsafBase
import Derived.ProofKit
import Derived.OpenShut
import Derived.ShutString
import Derived.ChangeOld
import Derived.Below
import Derived.SizedLaws
namespace Go.Proofs.Ygcsaf
open Go.ChangeShapes Go.WideShapes Go.ChangeAt Go.RowKit
set_option linter.unusedVariables false
set_option linter.unusedSimpArgs false

theorem own : ownKnob Safg.prog.godebug = none := by kernel_rfl
theorem laidOut : laidOutB Safg.prog = true := by kernel_rfl
theorem Safg.cells5 : Safg.prog.cellsOf 5 = 1 := by kernel_rfl
theorem Safg.bytes5 : Safg.prog.bytesOf 5 = 1 := by kernel_rfl

theorem wf_u8 {n : Int} (h : (Lit.int .u8 n).wf = true) : 0 ≤ n ∧ n < 256 := by
  have := bounds_u8 h
  omega

theorem open_bytes {H : Type} {enc : TypeId × Value → H} {W : World} {a0 : Option Addr} {len0 cap0 : Nat} {d : DataW H} {p : List MemPlace}
    (h : DataW.Trod enc Safg.prog W 0 (fun _ => true) true 30 (.slice a0 len0 cap0) d p) (hsz : ∀ elems spare, d = .slice elems spare → (elems.length + spare.length) * Safg.prog.bytesOf 5 ≤ reachBytes) :
    ∃ l, Rd W a0 len0 l ∧ len0 ≤ cap0 ∧ cap0 ≤ 140737488351232 := by
  obtain ⟨fuel, hf⟩ := h
  rcases open_ints Safg.underlying30 Safg.underlying5 Safg.cells5 hf with ⟨hcs, hx⟩ | ⟨x, l, c, zs, hcs, _, hl, hm, hz, hx, hcell, hwz⟩
  · simp [Value.cells] at hcs
    obtain ⟨rfl, rfl, rfl⟩ := hcs
    exact ⟨[], Rd.nil _ _, Nat.le_refl _, by omega⟩
  · simp [Value.cells] at hcs
    obtain ⟨rfl, rfl, rfl⟩ := hcs
    simp only [if_true] at hz
    simp only [Prod.mk.injEq] at hx
    have hs := hsz _ _ hx.1
    rw [Safg.bytes5] at hs
    simp only [lits, List.length_map, List.length_take, List.length_drop, reachBytes] at hs
    have hdig : ∀ i, 0 ≤ zs.getD i 0 ∧ zs.getD i 0 < 256 := by
      intro i
      by_cases hi : i < zs.length
      · have e : zs.getD i 0 = zs[i] := by simp [hi]
        rw [e]; exact wf_u8 (hwz _ (List.getElem_mem hi))
      · have e : zs.getD i 0 = 0 := by simp [List.getElem?_eq_none (show zs.length ≤ i by omega)]
        rw [e]; omega
    refine ⟨(zs.take len0).map Int.toNat, ⟨by simp; omega, fun i hi => ?_, ?_⟩, hl, by omega⟩
    · have hc := hcell i (by omega)
      have hlt := cell_lt hc
      obtain ⟨b, off, sp⟩ := x
      have hsp : sp = none := by
        cases sp with
        | none => rfl
        | some s =>
          exfalso
          have h0 := hcell 0 (by omega)
          unfold World.cell? Addr.add at h0
          simp at h0
          revert h0
          split <;> simp
      subst hsp
      have ea : (⟨b, off, none⟩ : Addr).add i = ⟨b, off + i, none⟩ := by unfold Addr.add; split <;> simp_all
      rw [ea] at hc hlt
      refine ⟨b, off, rfl, hlt, ?_⟩
      rw [hc]
      have e : ((zs.take len0).map Int.toNat).getD i 0 = (zs.getD i 0).toNat := by
        have h1 : i < zs.length := by omega
        simp [hi, h1]
      have := hdig i
      rw [e, Int.toNat_of_nonneg this.1]
    · intro y hy
      simp only [List.mem_map] at hy
      obtain ⟨z, hz', rfl⟩ := hy
      have := wf_u8 (hwz z (List.mem_of_mem_take hz'))
      omega
end Go.Proofs.Ygcsaf
