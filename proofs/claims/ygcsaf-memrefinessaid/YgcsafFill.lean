/-
  'filled' (17), 'within' (63), 'reaches' (64).
-/
import Derived.Test.YgcsafMeth
namespace Go.Proofs.Ygcsaf
open Go.RowKit
set_option linter.unusedVariables false
set_option linter.unusedSimpArgs false

def fillL (n fill : Nat) : List Nat := (List.range n).map fun i => (fill + i) % 256
theorem fillL_length (n fill : Nat) : (fillL n fill).length = n := by simp [fillL]
theorem fillL_dig (n fill : Nat) : D.Dig (fillL n fill) := by
  intro d hd
  simp only [fillL, List.mem_map] at hd
  obtain ⟨i, _, rfl⟩ := hd
  omega
theorem fillL_get {n fill j : Nat} (hj : j < n) : (fillL n fill).getD j 0 = (fill + j) % 256 := by
  simp only [fillL, List.getD_eq_getElem?_getD, List.getElem?_map, List.getElem?_range hj, Option.map_some, Option.getD_some]

set_option maxHeartbeats 1000000 in
theorem filled_any (w : World) (n fill : Nat) (hn : n ≤ 40) (hf : fill < 256) :
    Calls Safg.prog 17 #[.int .i64 (n : Int), .int .u8 (fill : Int)] w fun e w' => ∃ g, e = .returned (.slice (some ⟨g, 0, none⟩) n n) ∧ w.heap.size ≤ g ∧ Own w' g (fillL n fill) ∧ Below w.heap.size w w' := by
  go_enter Safg.func17, Safg.ntmps17
  go_upto_region 3 with (refine wpList_make_bytes _ rfl _ _ 30 rfl Safg.underlying30 .i64 .i64 _ _ n rfl rfl rfl rfl (by omega) ?_; intro w1 g hg o1 b1)
  go_loopw [11] (fun i wr => ∃ (k : Nat) (L : List Nat), k ≤ n ∧ i = .int .i64 k ∧ Own wr g L ∧ Only g w1 wr ∧ L.length = n ∧ (∀ j, j < k → L.getD j 0 = (fill + j) % 256)) (fun i _ => n - (intOf i).toNat)
  case atStart => exact ⟨0, _, Nat.zero_le _, rfl, o1, Only.refl _ _, by simp, fun j hj => absurd hj (by omega)⟩
  case round =>
    obtain ⟨k, L, hk, rfl, ownr, onlyr, hL, hj⟩ := hrel
    have HJ : Hid (∀ j, j < k → L.getD j 0 = (fill + j) % 256) := hj
    clear hj
    by_cases hlt : k < n
    · have hc := ownr.cell k (by omega)
      have hfr := ownr.free k
      have hset := ownr.setI (k := k) (by omega) ((fill + k) % 256) (i := ((fill : Int) + (k : Int) % 256) % 256) (by omega)
      have hset2 := ownr.setI (k := k) (by omega) ((fill + k) % 256) (i := ((fill : Int) + (k : Int)) % 256) (by omega)
      go_wp2
      go_roundw
      case rel =>
        refine ⟨k + 1, L.set k ((fill + k) % 256), by omega, by go_num, by (first | exact hset | exact hset2), onlyr.setCell _ _, by simpa using hL, fun j hj => ?_⟩
        rw [D.getD_set (by omega)]
        by_cases e : j = k
        · rw [if_pos e, e]
        · rw [if_neg e]; exact HJ.out j (by omega)
      case measure => simp [intOf]; omega
    · have hk' : k = n := by omega
      subst hk'
      have hLe : L = fillL k fill := by
        apply List.ext_getElem?
        intro j
        by_cases hj : j < k
        · have h1 := HJ.out j hj
          have h2 := fillL_get (fill := fill) hj
          rw [List.getElem?_eq_getElem (by omega), List.getElem?_eq_getElem (by rw [fillL_length]; exact hj)]
          rw [List.getD_eq_getElem?_getD, List.getElem?_eq_getElem (by omega)] at h1
          rw [List.getD_eq_getElem?_getD, List.getElem?_eq_getElem (by rw [fillL_length]; exact hj)] at h2
          simp only [Option.getD_some] at h1 h2
          rw [h1, h2]
        · rw [List.getElem?_eq_none (by omega), List.getElem?_eq_none (by rw [fillL_length]; omega)]
      have HL : Hid (L = fillL k fill) := hLe
      clear hLe
      go_wp2
      go_ret
      exact ⟨g, rfl, hg, by rw [← HL.out]; exact ownr, b1.trans (onlyr.below hg)⟩

theorem within_any (w : World) (off n size : Nat) (ho : off < 4294967296) (hn : n < 4294967296) (hs : size < 4294967296) :
    Calls Safg.prog 63 #[.int .u32 (off : Int), .int .u32 (n : Int), .int .u64 (size : Int)] w fun e w' => e = .returned (.bool (decide (off + n ≤ size))) ∧ w' = w := by
  obtain ⟨b, HB⟩ : ∃ b, Hid (decide (off + n ≤ size) = b) := ⟨_, rfl⟩
  have t1 : decide ((off : Int) + (n : Int) ≤ (size : Int)) = b := by
    rw [← HB.out]
    congr 1
    apply propext
    omega
  rw [HB.out]
  go_enter Safg.func63, Safg.ntmps63
  go_wp2
  go_ret
  exact ⟨rfl, rfl⟩
end Go.Proofs.Ygcsaf
