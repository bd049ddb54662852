import Derived.Test.YgcsafGreatFromBE
import Derived.Test.YgcsafGreatArr
import Derived.Deep.Cut
namespace Go.Proofs.YgcsafGreat
open Go.RowKit
set_option linter.unusedVariables false
set_option linter.unusedSimpArgs false

theorem Safg.zero22 : (Safg.prog.info? 22).map (·.zero) = some (some (arrV (List.replicate 32 0))) := by kernel_rfl
theorem Safg.size22 : (Safg.prog.info? 22).map (·.size) = some 32 := by kernel_rfl

set_option maxHeartbeats 400000 in
theorem be32_any (w : World) (a : Option Addr) (len cap : Nat) (l : List Nat) (h : Rd w a len l) (hc : len ≤ cap) (hm : cap ≤ 281474976710656) :
    Calls Safg.prog 31 #[.slice a len cap] w fun e w' => ∃ B ok, e = .returned (.tuple #[arrV B, .bool ok]) ∧ B.length = 32 ∧ D.Dig B ∧
      ((32 < (D.trimL l).length ∧ ok = false ∧ B = List.replicate 32 0) ∨ ((D.trimL l).length ≤ 32 ∧ ok = true ∧ ∀ j, j < 32 → B.getD (31 - j) 0 = (D.trimL l).getD j 0)) ∧ Below w.heap.size w w' := by
  have hl := h.length
  go_enter Safg.func31, Safg.ntmps31
  go_upto_region 1 with (refine wpList_alloc_arr rfl 22 rfl 32 Safg.zero22 ?_; intro w1 g1 hg1 o1 b1)
  go_upto_region 2 with (refine wpList_alloc_arr rfl 22 rfl 32 Safg.zero22 ?_; intro w2 g2 hg2 o2 b2)
  have b12 : Below w.heap.size w w2 := b1.trans (b2.mono b1.size)
  have o1' := o1.below b2 o1.lt
  have h2 := h.below b12
  have htl := D.trimL_len l
  have hrd := h2.trim
  have hne : g1 ≠ g2 := by have := o1.lt; omega
  have hs1 := b1.size
  clear o1 b1 b2
  go_upto_region 3 with (go_at_call 96; refine (trim_any _ _ _ _ l h2 hc (by omega)).mono ?_; rintro e w' ⟨rfl, rfl⟩)
  generalize hT : D.trimL l = T at *
  have HT : Hid (D.trimL l = T) := hT
  clear hT
  by_cases h32 : 32 < T.length
  · go_upto_region 4 with fail
    apply wp_region_lit
    refine wpList_load_arr rfl 22 _ rfl g2 rfl _ o2 32 5 Safg.underlying22 Safg.size22 ?_
    refine wpList_store_arr rfl 22 _ _ rfl g1 rfl _ _ rfl o1' (by simp) Safg.size22 ?_
    intro w3 o3 b3
    go_wp2
    have hload := run_loadVar_mid (P := Safg.prog) w3 g1 0 22 _ _ o3.range Safg.underlying22 rfl (by rw [cellsL_length]; exact Safg.size22)
    refine bodyPost_ret (v := .tuple #[arrV (List.replicate 32 0), .bool false]) ?_ rfl ⟨_, _, rfl, by simp, D.Dig.replicate _, .inl ⟨by rw [HT.out]; exact h32, rfl, rfl⟩, b12.trans (b3.below hg1)⟩
    rw [results_cell_tmp Safg.results31]
    simp [asAddr, hload, arrV]
  · have h32' : T.length ≤ 32 := by omega
    go_wp2
    go_loopw [15] (fun i wr => ∃ (k : Nat) (B : List Nat), k ≤ T.length ∧ i = .int .i64 k ∧ Own wr g2 B ∧ Only g2 w' wr ∧ B.length = 32 ∧ D.Dig B ∧ (∀ j, j < 32 → B.getD (31 - j) 0 = if j < k then T.getD j 0 else 0)) (fun i _ => T.length - (intOf i).toNat)
    case atStart => exact ⟨0, _, Nat.zero_le _, rfl, o2, Only.refl _ _, by simp, D.Dig.replicate _, fun j hj => by rw [D.getD_replicate]; rfl⟩
    case round =>
      obtain ⟨k, B, hk, rfl, ownr, onlyr, hB, hdB, hj⟩ := hrel
      have HJ : Hid (∀ j, j < 32 → B.getD (31 - j) 0 = if j < k then T.getD j 0 else 0) := hj
      clear hj
      by_cases hlt : k < T.length
      · obtain ⟨b, off, rfl, hb, hcell⟩ := hrd.cell k hlt
        have hbg : b ≠ g2 := by
          obtain ⟨b', off', e', hb', _⟩ := h.cell k (by omega)
          injection e' with e'; injection e' with e1 e2; subst e1 e2
          have := b12.size; omega
        have hcell2 : wr.cell? ⟨b, off + k, none⟩ = some (.int .u8 ((T.getD k 0 : Nat) : Int)) := by rw [onlyr.cell (p := ⟨b, off + k, none⟩) hbg]; exact hcell
        have hdg := hrd.dig.getD k
        have hcell3 := ownr.cell (31 - k) (by omega)
        have hfr := ownr.free (31 - k)
        have hset := ownr.set (k := 31 - k) (by omega) (T.getD k 0)
        clear hcell
        generalize hx : T.getD k 0 = x at hcell2 hdg hset
        have HX : Hid (T.getD k 0 = x) := hx
        clear hx
        go_wp2
        go_roundw
        case rel =>
          refine ⟨k + 1, _, by omega, by go_num, hset, onlyr.setCell _ _, by simpa using hB, hdB.set _ hdg, fun j hj => ?_⟩
          rw [D.getD_set (by omega)]
          by_cases e : j = k
          · subst e; rw [if_pos rfl, if_pos (by omega), HX.out]
          · rw [if_neg (by omega), HJ.out j hj]
            by_cases e2 : j < k
            · rw [if_pos e2, if_pos (by omega)]
            · rw [if_neg e2, if_neg (by omega)]
        case measure => simp [intOf]; omega
      · go_upto_region 10 with fail
        apply wp_region_lit
        refine wpList_load_arr rfl 22 _ rfl g2 rfl _ ownr 32 5 Safg.underlying22 (by rw [hB]; exact Safg.size22) ?_
        refine wpList_store_arr rfl 22 _ _ rfl g1 rfl _ _ rfl (onlyr.own o1' hne) (by simp [hB]) Safg.size22 ?_
        intro w3 o3 b3
        go_wp2
        have hload := run_loadVar_mid (P := Safg.prog) w3 g1 0 22 _ _ o3.range Safg.underlying22 rfl (by rw [cellsL_length, hB]; exact Safg.size22)
        refine bodyPost_ret (v := .tuple #[arrV B, .bool true]) ?_ rfl ⟨_, _, rfl, hB, hdB, .inr ⟨by rw [HT.out]; exact h32', rfl, fun j hj => ?_⟩, (b12.trans (onlyr.below (by have := b12.size; omega))).trans (b3.below hg1)⟩
        · rw [results_cell_tmp Safg.results31]
          simp [asAddr, hload, arrV]
        · rw [HJ.out j hj, HT.out]
          split
          · rfl
          · have e : T.length ≤ j := by omega
            simp [List.getElem?_eq_none e]
end Go.Proofs.YgcsafGreat
