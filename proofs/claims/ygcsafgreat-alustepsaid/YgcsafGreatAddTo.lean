/-
  'obs.addTo' (301) onto zero.
-/
import Derived.Test.YgcsafGreatVEnd
namespace Go.Proofs.YgcsafGreat
open Go.RowKit
set_option linter.unusedVariables false
set_option linter.unusedSimpArgs false

set_option maxRecDepth 100000 in
set_option maxHeartbeats 2000000 in
/-- Onto zero: the sum becomes the bytes. -/
theorem addTo_zero (w : World) (gs g off : Nat) (L : List Nat) (own : Own w gs (List.replicate 32 0)) (hb : ∀ j, j < 32 → w.cell? ⟨g, off + j, none⟩ = some (.int .u8 ((L.getD j 0 : Nat) : Int))) (hL : L.length = 32) (dL : D.Dig L) (hne : g ≠ gs) :
    Calls Safg.prog 301 #[.pointer (some ⟨gs, 0, none⟩), .pointer (some ⟨g, off, none⟩)] w fun e w' => e = .returned (.bool true) ∧ Own w' gs L ∧ Only gs w w' := by
  go_enter Safg.func301, Safg.ntmps301
  go_upto_region 3 with fail
  go_loopw [5, 6] (fun c i wr => ∃ (k : Nat) (K : List Nat), k ≤ 32 ∧ i = .int .i64 k ∧ c = .int .u16 0 ∧ Own wr gs K ∧ Only gs w wr ∧ K.length = 32 ∧ Hid ((∀ j, j < k → K.getD j 0 = 0) ∧ (∀ j, k ≤ j → j < 32 → K.getD j 0 = L.getD j 0))) (fun _ i _ => (intOf i).toNat)
  case atStart => exact ⟨32, _, Nat.le_refl _, rfl, rfl, own, Only.refl _ _, by simp, fun j _ => D.getD_replicate _ _, fun j h1 h2 => absurd h2 (by omega)⟩
  case round =>
    obtain ⟨k, K, hk, rfl, rfl, ownr, onlyr, hK, HI⟩ := hrel
    rcases Nat.eq_zero_or_pos k with h0 | h0
    · subst h0
      have e : K = L := D.ext_getD (by omega) (fun j hj => HI.out.2 j (by omega) (by omega))
      have HE : Hid (K = L) := e
      clear e
      go_wp2
      go_ret
      refine ⟨rfl, ?_, onlyr⟩
      rw [← HE.out]; exact ownr
    · obtain ⟨k, rfl⟩ : ∃ j, k = j + 1 := ⟨k - 1, by omega⟩
      have hki : ((k + 1 : Nat) : Int) - 1 = (k : Int) := by omega
      have hki2 : (k : Int) + 1 - 1 = (k : Int) := by omega
      have t0 : decide ((0 : Int) < (k : Int) + 1) = true := decide_eq_true (by omega)
      have cs := ownr.cell k (by omega)
      rw [HI.out.1 k (by omega)] at cs
      have cs : wr.cell? ⟨gs, k, none⟩ = some (.int .u8 0) := cs
      have fs := ownr.free k
      have cb : wr.cell? ⟨g, off + k, none⟩ = some (.int .u8 ((L.getD k 0 : Nat) : Int)) := by rw [onlyr.cell (p := ⟨g, off + k, none⟩) hne]; exact hb k (by omega)
      have dk := dL.getD k
      have HN : Hid ((∀ j, j < k → (K.set k (L.getD k 0)).getD j 0 = 0) ∧ (∀ j, k ≤ j → j < 32 → (K.set k (L.getD k 0)).getD j 0 = L.getD j 0)) := by
        refine ⟨fun j hj => ?_, fun j h1 h2 => ?_⟩
        · rw [D.getD_set (by omega), if_neg (by omega)]; exact HI.out.1 j (by omega)
        · rw [D.getD_set (by omega)]
          by_cases e : j = k
          · rw [if_pos e, e]
          · rw [if_neg e]; exact HI.out.2 j (by omega) h2
      generalize L.getD k 0 = y at *
      have q1 : (y : Int) / 256 = 0 := by omega
      have q2 : (y : Int) % 256 = (y : Int) := by omega
      go_upto_region 5 with fail
      go_quiet (fail)
      have ownq := (Same.drewN wr nq).own ownr
      have onlyq := onlyr.trans ((Same.drewN wr nq).only gs)
      have csq : (wr.drewN nq).cell? ⟨gs, k, none⟩ = some (.int .u8 0) := cs
      have fsq := ownq.free k
      generalize wr.drewN nq = wq at *
      have hset := ownq.set (k := k) (by omega) y
      have onlys := onlyq.setCell k (.int .u8 (y : Int))
      go_wp2
      go_roundw
      case rel => exact ⟨k, K.set k y, by omega, by go_num, by go_num, hset, onlys, by simpa using hK, HN.out⟩
      case measure => simp [intOf]
end Go.Proofs.YgcsafGreat
