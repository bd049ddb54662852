import Derived.Test.YgcsafGreatDivide
namespace Go.Proofs.YgcsafGreat
open Go.RowKit
set_option linter.unusedVariables false
set_option linter.unusedSimpArgs false

set_option maxRecDepth 100000 in
set_option maxHeartbeats 4000000 in
theorem divide_small (w : World) (g : Nat) (X : List Nat) (b : Wd4) (hb : b.Ok) (own : OwnU w g X) (hX : X.length = 8) (lX : Lim X) (n top : Nat) (hl : IsLimbs b.l n) (ht : IsLimbs X top) (hlt : top < n) :
    Calls Safg.prog 378 #[.pointer (some ⟨g, 0, none⟩), b.v] w (DivPost w g X b) := by
  have hglt := own.lt
  go_enter Safg.func378, Safg.ntmps378
  go_upto_region 1 with (first | (refine wpList_box_agg rfl 65 (.tmp 1) rfl b.cells rfl ?_; intro w1 g3 hg3 k3 c3) | (refine wpList_alloc_agg rfl 65 rfl _ Safg.zero65 ?_; intro w2 g4 hg4 k4 c4) | (refine wpList_alloc_agg rfl 351 rfl _ Safg.zero351 ?_; intro w3 g5 hg5 k5 c5))
  have k3' := (k3.below c4 k3.lt).below c5 (Nat.lt_of_lt_of_le k3.lt c4.size)
  have k4' := k4.below c5 k4.lt
  have b03 : Below w.heap.size w w3 := (c3.trans (c4.mono c3.size)).trans (c5.mono (Nat.le_trans c3.size c4.size))
  have own3 := own.below b03 hglt
  have hs1 := c3.size
  have hs2 := c4.size
  have hs3 := c5.size
  have hgl4 := k4.lt
  have hgl3 := k3.lt
  have hgl5 := k5.lt
  have g34 : g3 ≠ g4 := by omega
  have g35 : g3 ≠ g5 := by omega
  have g45 : g4 ≠ g5 := by omega
  have gg3 : g ≠ g3 := by omega
  have gg4 : g ≠ g4 := by omega
  have gg5 : g ≠ g5 := by omega
  clear c3 c4 c5 k3 k4
  have hn4 : n ≤ 4 := hl.le
  have hn0 : ((n : Int) == 0) = false := by simp; omega
  go_upto_region 6 with (first | (refine wpList_load_mid rfl 65 (.tmp 3) rfl g3 0 rfl _ _ k3'.cell Safg.under65 rfl Safg.size65 ?_) | (go_at_call 187; refine (limbs_any _ b hb).mono ?_; rintro e w4 ⟨n', hn', isl, rfl, b4⟩; obtain rfl := IsLimbs.unique isl hl))
  have own4 := own3.below b4 (by omega)
  have q3 : Blk w4 g3 b.cells := k3'.below b4 (by omega)
  have q4 : Blk w4 g4 Wd4.zero.cells := k4'.below b4 (by omega)
  have q5 : Blk w4 g5 (pth 0 0 0) := k5.below b4 (by omega)
  have T4 : Turn [g] w w4 := (Turn.of_below b03 (Nat.le_refl _) [g]).trans (Turn.of_below b4 (Nat.le_refl _) [g])
  have hlt3 := q3.lt
  have hlt4 := q4.lt
  have hlt5 := q5.lt
  have hltg := own4.lt
  have hsz4 := b4.size
  clear k3' k4' k5 own3 b03 b4
  have ht8 : top ≤ 8 := by have := ht.le; omega
  obtain ⟨X4, HX4, hX4ok, HV⟩ : ∃ X4 : Wd4, Hid (X.take 4 = X4.l) ∧ X4.Ok ∧ Hid (X4.val < b.val ∧ wv X 0 8 = X4.val) := by
    obtain ⟨v, hv⟩ := list4 (L := X.take 4) (by simp [hX])
    refine ⟨v, hv.symm, Lim.ok (by rw [hv]; intro x hx; exact lX x (List.mem_of_mem_take hx)), ?_⟩
    have e1 : v.val = wv X 0 8 := by
      rw [Wd4.val_wv, hv, wv_drop (n := 4) (m := 8) (by omega) (fun i h1 h2 => ht.zero i (by omega))]
      exact wv_congr fun j hj => by
        rw [Nat.zero_add]
        simp only [List.getD_eq_getElem?_getD, List.getElem?_take, if_pos hj]
    refine ⟨?_, e1.symm⟩
    rw [e1, wv_drop (n := top) (m := 8) ht8 (fun i h1 h2 => ht.zero i h1)]
    refine Nat.lt_of_lt_of_le (wv_lt lX 0 top) ?_
    have h2 := wv_ge (U := b.l) (o := 0) (i := n' - 1) (m := 4) (by omega)
    rw [Nat.zero_add] at h2
    have h3 := hl.top (by omega)
    have h4 : b64 ^ top ≤ b64 ^ (n' - 1) := Nat.pow_le_pow_right b64_pos (by omega)
    have h5 : b64 ^ (n' - 1) * 1 ≤ b64 ^ (n' - 1) * b.l.getD (n' - 1) 0 := Nat.mul_le_mul_left _ (by omega)
    rw [Wd4.val_wv]
    omega
  have hX4 : w4.rangeAt g 0 X4.cells := fun j v hv => by
    rw [Wd4.cellsU] at hv
    obtain ⟨hj, rfl⟩ := cellsU_get _ j v hv
    have e : X4.l.getD j 0 = X.getD j 0 := by
      rw [← HX4.out]
      have hj4 : j < 4 := hj
      simp only [List.getD_eq_getElem?_getD, List.getElem?_take, if_pos hj4]
    have hj4 : j < 4 := hj
    rw [Nat.zero_add, own4.cell j (by omega)]
    show _ = some (Value.int IntKind.u64 ((X4.l.getD j 0 : Nat) : Int))
    rw [e]
  go_loop [7] (fun i => ∃ k : Nat, i = .int .u8 k ∧ top ≤ k ∧ k ≤ 8) (fun i => (intOf i).toNat)
  case atStart => exact ⟨8, rfl, ht8, Nat.le_refl _⟩
  case round =>
    obtain ⟨k, rfl, hk1, hk2⟩ := hrel
    by_cases hkt : top < k
    · obtain ⟨k, rfl⟩ : ∃ j, k = j + 1 := ⟨k - 1, by omega⟩
      have c2 := own4.cell k (by omega)
      rw [ht.zero k (by omega)] at c2
      have hki : ((k + 1 : Nat) : Int) - 1 = (k : Int) := by omega
      have hki2 : (k : Int) + 1 - 1 = (k : Int) := by omega
      have t0 : decide ((0 : Int) < (k : Int) + 1) = true := decide_eq_true (by omega)
      go_wp2
      go_round
      case rel => exact ⟨k, by go_num, by omega, by omega⟩
      case measure => simp [intOf]
    · obtain rfl : top = k := by omega
      have t3 : decide ((top : Int) < (n' : Int)) = true := decide_eq_true (by omega)
      by_cases h0 : top = 0
      · subst h0
        go_upto_region 11 with (first | (refine wpList_arrayPtr rfl 65 _ rfl (some ⟨g, 0, none⟩) 4 8 4 31 rfl Safg.under65 (Nat.le_refl _) ?_) | (refine wpList_load_mid rfl 65 (.tmp 42) rfl g 0 rfl X4.cells _ hX4 Safg.under65 rfl Safg.size65 ?_) | (refine wpList_store_agg rfl 65 _ _ rfl g4 rfl _ X4.cells rfl q4 rfl Safg.size65 (Wd4.one _) ?_; intro w5 n4 o5) | (refine wpList_clearU rfl _ rfl g 7 8 rfl X hX (own4.only o5 gg4) ?_; intro w6 own6 o6))
        have m4 : Blk w6 g4 X4.cells := o6.blk n4 (Ne.symm gg4)
        have m5 : Blk w6 g5 (pth 0 0 0) := o6.blk (o5.blk q5 (Ne.symm g45)) (Ne.symm gg5)
        refine wp_region_held_drew (S := fun w' => w' = w6.drew) (by kernel_rfl) rfl (fun hHeld => ?_)
        refine wpAnyH_take' (i := 0) (d := 47) (v := .agg X4.cells.toArray) rfl rfl (by kernel_rfl) (by kernel_rfl) (by kernel_rfl) (fun _ _ _ h => h) (yieldsIf_load_mid (by rfl) 65 _ rfl g4 0 rfl X4.cells _ (fun w hw => by subst hw; exact ((Same.drew _).blk m4).cell) Safg.under65 rfl Safg.size65) hHeld ?_
        simp only [Act.put, List.setIfInBounds_toArray, List.set_cons_zero, List.set_cons_succ]
        refine wpAnyH_take' (i := 1) (d := 48) (v := .agg (pth 0 0 0).toArray) rfl rfl (by kernel_rfl) (by kernel_rfl) (by kernel_rfl) (fun _ _ _ h => h) (yieldsIf_load_mid (by rfl) 351 _ rfl g5 0 rfl (pth 0 0 0) _ (fun w hw => by subst hw; exact ((Same.drew _).blk m5).cell) Safg.underlying351 rfl Safg.size351) hHeld ?_
        simp only [Act.put, List.setIfInBounds_toArray, List.set_cons_zero, List.set_cons_succ]
        refine wpAnyH_ready (rs := [2]) (by kernel_rfl) (by simp) ?_
        refine AllReadyH.cons rfl (fun K hK => ?_) AllReadyH.nil
        rw [if_pos (by rfl)]
        refine wp_store_mid 65 _ _ rfl g4 0 X4.cells.toArray rfl rfl (self_there ((Same.drew _).blk m4)) Safg.size65 (all_oneCell_toArray (Wd4.one _)) ?_
        rw [setCells_self _ _ ((Same.drew _).blk m4).cell]
        refine hK.out _ _ rfl (fun hHeld => ?_)
        clear hK K
        refine wpAnyH_ready (rs := [3]) (by kernel_rfl) (by simp) ?_
        refine AllReadyH.cons rfl (fun K hK => ?_) AllReadyH.nil
        rw [if_pos (by rfl)]
        refine wp_store_mid 351 _ _ rfl g5 0 (pth 0 0 0).toArray rfl rfl (self_there ((Same.drew _).blk m5)) Safg.size351 (all_oneCell_toArray (pth_one _ _ _)) ?_
        rw [setCells_self _ _ ((Same.drew _).blk m5).cell]
        refine hK.out _ _ rfl (fun hHeld => ?_)
        clear hK K
        refine wpAnyH_done (by kernel_rfl) ?_ _
        go_wp2
        refine bodyPost_ret (results_cell2 Safg.results378 _ _ g4 g5 X4.cells (pth 0 0 0) _ _ rfl rfl ((Same.drew _).blk m4) ((Same.drew _).blk m5) Safg.under65 rfl Safg.size65 Safg.underlying351 rfl Safg.size351) rfl ?_
        refine ⟨_, X4, 0, 0, 0, rfl, rfl, lim_replicate 8, hX4ok, own6.same (Same.drew _), ?_, fun h => absurd (limbs_pos hl (by omega)) (by omega), fun _ => ⟨HV.out.1, by rw [wv_replicate, Nat.zero_mul, Nat.zero_add]; exact HV.out.2⟩⟩
        refine ((T4.then_ (S' := [g4]) (Turn.of_only o5) (fun i hi hlt => absurd hlt (by simp at hi; omega))).trans (Turn.of_only o6)).trans ?_
        exact Turn.drew _ _
      · obtain ⟨m, rfl⟩ : ∃ j, top = j + 1 := ⟨top - 1, by omega⟩
        have c2 := own4.cell m (by omega)
        have hx0 := ht.top (by omega)
        rw [Nat.add_sub_cancel] at hx0
        obtain ⟨x, HX⟩ : ∃ x, Hid (X.getD m 0 = x) := ⟨_, rfl⟩
        rw [HX.out] at c2 hx0
        have t1 : ((x : Int) == 0) = false := by simp [hx0]
        have hki : ((m + 1 : Nat) : Int) - 1 = (m : Int) := by omega
        have hki2 : (m : Int) + 1 - 1 = (m : Int) := by omega
        have t0 : decide ((0 : Int) < (m : Int) + 1) = true := decide_eq_true (by omega)
        have t4 : decide ((m : Int) + 1 < (n' : Int)) = true := decide_eq_true (by omega)
        go_upto_region 11 with (first | (refine wpList_arrayPtr rfl 65 _ rfl (some ⟨g, 0, none⟩) 4 8 4 31 rfl Safg.under65 (Nat.le_refl _) ?_) | (refine wpList_load_mid rfl 65 (.tmp 42) rfl g 0 rfl X4.cells _ hX4 Safg.under65 rfl Safg.size65 ?_) | (refine wpList_store_agg rfl 65 _ _ rfl g4 rfl _ X4.cells rfl q4 rfl Safg.size65 (Wd4.one _) ?_; intro w5 n4 o5) | (refine wpList_clearU rfl _ rfl g 7 8 rfl X hX (own4.only o5 gg4) ?_; intro w6 own6 o6))
        have m4 : Blk w6 g4 X4.cells := o6.blk n4 (Ne.symm gg4)
        have m5 : Blk w6 g5 (pth 0 0 0) := o6.blk (o5.blk q5 (Ne.symm g45)) (Ne.symm gg5)
        refine wp_region_held_drew (S := fun w' => w' = w6.drew) (by kernel_rfl) rfl (fun hHeld => ?_)
        refine wpAnyH_take' (i := 0) (d := 47) (v := .agg X4.cells.toArray) rfl rfl (by kernel_rfl) (by kernel_rfl) (by kernel_rfl) (fun _ _ _ h => h) (yieldsIf_load_mid (by rfl) 65 _ rfl g4 0 rfl X4.cells _ (fun w hw => by subst hw; exact ((Same.drew _).blk m4).cell) Safg.under65 rfl Safg.size65) hHeld ?_
        simp only [Act.put, List.setIfInBounds_toArray, List.set_cons_zero, List.set_cons_succ]
        refine wpAnyH_take' (i := 1) (d := 48) (v := .agg (pth 0 0 0).toArray) rfl rfl (by kernel_rfl) (by kernel_rfl) (by kernel_rfl) (fun _ _ _ h => h) (yieldsIf_load_mid (by rfl) 351 _ rfl g5 0 rfl (pth 0 0 0) _ (fun w hw => by subst hw; exact ((Same.drew _).blk m5).cell) Safg.underlying351 rfl Safg.size351) hHeld ?_
        simp only [Act.put, List.setIfInBounds_toArray, List.set_cons_zero, List.set_cons_succ]
        refine wpAnyH_ready (rs := [2]) (by kernel_rfl) (by simp) ?_
        refine AllReadyH.cons rfl (fun K hK => ?_) AllReadyH.nil
        rw [if_pos (by rfl)]
        refine wp_store_mid 65 _ _ rfl g4 0 X4.cells.toArray rfl rfl (self_there ((Same.drew _).blk m4)) Safg.size65 (all_oneCell_toArray (Wd4.one _)) ?_
        rw [setCells_self _ _ ((Same.drew _).blk m4).cell]
        refine hK.out _ _ rfl (fun hHeld => ?_)
        clear hK K
        refine wpAnyH_ready (rs := [3]) (by kernel_rfl) (by simp) ?_
        refine AllReadyH.cons rfl (fun K hK => ?_) AllReadyH.nil
        rw [if_pos (by rfl)]
        refine wp_store_mid 351 _ _ rfl g5 0 (pth 0 0 0).toArray rfl rfl (self_there ((Same.drew _).blk m5)) Safg.size351 (all_oneCell_toArray (pth_one _ _ _)) ?_
        rw [setCells_self _ _ ((Same.drew _).blk m5).cell]
        refine hK.out _ _ rfl (fun hHeld => ?_)
        clear hK K
        refine wpAnyH_done (by kernel_rfl) ?_ _
        go_wp2
        refine bodyPost_ret (results_cell2 Safg.results378 _ _ g4 g5 X4.cells (pth 0 0 0) _ _ rfl rfl ((Same.drew _).blk m4) ((Same.drew _).blk m5) Safg.under65 rfl Safg.size65 Safg.underlying351 rfl Safg.size351) rfl ?_
        refine ⟨_, X4, 0, 0, 0, rfl, rfl, lim_replicate 8, hX4ok, own6.same (Same.drew _), ?_, fun h => absurd (limbs_pos hl (by omega)) (by omega), fun _ => ⟨HV.out.1, by rw [wv_replicate, Nat.zero_mul, Nat.zero_add]; exact HV.out.2⟩⟩
        refine ((T4.then_ (S' := [g4]) (Turn.of_only o5) (fun i hi hlt => absurd hlt (by simp at hi; omega))).trans (Turn.of_only o6)).trans ?_
        exact Turn.drew _ _
end Go.Proofs.YgcsafGreat
