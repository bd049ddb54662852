import Derived.Test.YgcsafGreatDivide
namespace Go.Proofs.YgcsafGreat
open Go.RowKit
set_option linter.unusedVariables false
set_option linter.unusedSimpArgs false

set_option maxRecDepth 100000 in
set_option maxHeartbeats 4000000 in
theorem divide_one (w : World) (g : Nat) (X : List Nat) (b : Wd4) (hb : b.Ok) (own : OwnU w g X) (hX : X.length = 8) (lX : Lim X) (top : Nat) (hl : IsLimbs b.l 1) (ht : IsLimbs X top) (hlt : 1 ≤ top) :
    Calls Safg.prog 378 #[.pointer (some ⟨g, 0, none⟩), b.v] w (DivPost w g X b) := by
  have hglt := own.lt
  go_enter Safg.func378, Safg.ntmps378
  go_upto_region 1 with (first | (refine wpList_box_agg rfl 65 (.tmp 1) rfl b.cells rfl ?_; intro w1 g3 hg3 k3 c3) | (refine wpList_alloc_agg rfl 65 rfl _ Safg.zero65 ?_; intro w2 g4 hg4 k4 c4) | (refine wpList_alloc_agg rfl 351 rfl _ Safg.zero351 ?_; intro w3 g5 hg5 k5 c5))
  have k3' := (k3.below c4 k3.lt).below c5 (Nat.lt_of_lt_of_le k3.lt c4.size)
  have k4' := k4.below c5 k4.lt
  have b03 : Below w.heap.size w w3 := (c3.trans (c4.mono c3.size)).trans (c5.mono (Nat.le_trans c3.size c4.size))
  have own3 := own.below b03 hglt
  have hs1 := c3.size
  have hs2 := c4.size
  have hs3 := c5.size
  have hgl4 := k4.lt
  have hgl3 := k3.lt
  have hgl5 := k5.lt
  have g34 : g3 ≠ g4 := by omega
  have g35 : g3 ≠ g5 := by omega
  have g45 : g4 ≠ g5 := by omega
  have gg3 : g ≠ g3 := by omega
  have gg4 : g ≠ g4 := by omega
  have gg5 : g ≠ g5 := by omega
  clear c3 c4 c5 k3 k4
  go_upto_region 6 with (first | (refine wpList_load_mid rfl 65 (.tmp 3) rfl g3 0 rfl _ _ k3'.cell Safg.under65 rfl Safg.size65 ?_) | (go_at_call 187; refine (limbs_any _ b hb).mono ?_; rintro e w4 ⟨n', hn', isl, rfl, b4⟩; obtain rfl := IsLimbs.unique isl hl; rw [show ((1 : Nat) : Int) = 1 from rfl]))
  have own4 := own3.below b4 (by omega)
  have q3 : Blk w4 g3 b.cells := k3'.below b4 (by omega)
  have q4 : Blk w4 g4 Wd4.zero.cells := k4'.below b4 (by omega)
  have q5 : Blk w4 g5 (pth 0 0 0) := k5.below b4 (by omega)
  have T4 : Turn [g] w w4 := (Turn.of_below b03 (Nat.le_refl _) [g]).trans (Turn.of_below b4 (Nat.le_refl _) [g])
  have hlt3 := q3.lt
  have hlt4 := q4.lt
  have hlt5 := q5.lt
  have hltg := own4.lt
  have hsz4 := b4.size
  clear k3' k4' k5 own3 b03 b4
  have ht8 : top ≤ 8 := by have := ht.le; omega
  go_loop [7] (fun i => ∃ k : Nat, i = .int .u8 k ∧ top ≤ k ∧ k ≤ 8) (fun i => (intOf i).toNat)
  case atStart => exact ⟨8, rfl, ht8, Nat.le_refl _⟩
  case round =>
    obtain ⟨k, rfl, hk1, hk2⟩ := hrel
    by_cases hkt : top < k
    · obtain ⟨k, rfl⟩ : ∃ j, k = j + 1 := ⟨k - 1, by omega⟩
      have c2 := own4.cell k (by omega)
      rw [ht.zero k (by omega)] at c2
      have hki : ((k + 1 : Nat) : Int) - 1 = (k : Int) := by omega
      have hki2 : (k : Int) + 1 - 1 = (k : Int) := by omega
      have t0 : decide ((0 : Int) < (k : Int) + 1) = true := decide_eq_true (by omega)
      go_wp2
      go_round
      case rel => exact ⟨k, by go_num, by omega, by omega⟩
      case measure => simp [intOf]
    · obtain rfl : top = k := by omega
      obtain ⟨m, rfl⟩ : ∃ j, top = j + 1 := ⟨top - 1, by omega⟩
      have c2 := own4.cell m (by omega)
      have hx0 := ht.top (by omega)
      rw [Nat.add_sub_cancel] at hx0
      obtain ⟨x, HX⟩ : ∃ x, Hid (X.getD m 0 = x) := ⟨_, rfl⟩
      rw [HX.out] at c2 hx0
      have t1 : ((x : Int) == 0) = false := by simp [hx0]
      have hki : ((m + 1 : Nat) : Int) - 1 = (m : Int) := by omega
      have hki2 : (m : Int) + 1 - 1 = (m : Int) := by omega
      have t0 : decide ((0 : Int) < (m : Int) + 1) = true := decide_eq_true (by omega)
      have t4 : decide ((m : Int) + 1 < 1) = false := decide_eq_false (by omega)
      have cb0 := q3.get (j := 0) (v := .int .u64 (b.x0 : Int)) rfl
      have hb0 := hb.h0
      have hx0p : 0 < b.x0 := by
        have := hl.top (by omega)
        have e : b.l.getD (1 - 1) 0 = b.x0 := rfl
        rw [e] at this
        omega
      have HVb : Hid (b.val = b.x0) := by
        show _ = _
        rw [Wd4.val_wv, wv_drop (n := 1) (m := 4) (by omega) (fun i h1 _ => hl.zero i h1)]
        simp [wv, Wd4.l]
      have HD8 : Hid (wv X 0 8 = wv X 0 (m + 1)) := wv_drop (by omega) (fun i h1 _ => ht.zero i h1)
      have cp0 := q5.get (j := 0) (v := .int .u8 0) rfl
      have fp0 := q5.free 0
      obtain ⟨y, HY⟩ : ∃ y, Hid (b.x0 = y) := ⟨_, rfl⟩
      rw [HY.out] at cb0 hb0 hx0p HVb
      obtain ⟨pi, HPI⟩ : ∃ i : Int, Hid (i = (m : Int) + 1) := ⟨_, rfl⟩
      go_upto_region 14 with fail
      have o5 : Only g5 w4 (w4.setCell ⟨g5, 0, none⟩ (.int .u8 ((m : Int) + 1))) := (Only.refl g5 w4).setCell _ _
      have s5 : Blk (w4.setCell ⟨g5, 0, none⟩ (.int .u8 ((m : Int) + 1))) g5 (pth ((m : Int) + 1) 0 0) := q5.set (k := 0) (by simp [pth]) _
      generalize w4.setCell ⟨g5, 0, none⟩ (.int .u8 ((m : Int) + 1)) = w5 at *
      have own5 := own4.only o5 gg5
      have s3 := o5.blk q3 g35
      have s4 := o5.blk q4 g45
      have cb1 := s3.get (j := 0) (v := .int .u64 (b.x0 : Int)) rfl
      rw [HY.out] at cb1
      clear cp0 fp0 cb0
      go_upto_region 15 with (go_at_call 396; refine (short_any w5 g (m + 1) y X own5 lX hX (by omega) hx0p hb0).mono ?_; rintro e w6 ⟨Q, r, rfl, own6, o6, lQ, ab6, hr, E6⟩; have r4 := o6.blk s4 (Ne.symm gg4); have cr0 := r4.get (j := 0) (v := .int .u64 0) rfl; have fr0 := r4.free 0)
      have o7 : Only g4 w6 (w6.setCell ⟨g4, 0, none⟩ (.int .u64 (r : Int))) := (Only.refl g4 w6).setCell _ _
      have m4 : Blk (w6.setCell ⟨g4, 0, none⟩ (.int .u64 (r : Int))) g4 (Wd4.cells ⟨r, 0, 0, 0⟩) := r4.set (k := 0) (by simp [Wd4.cells, Wd4.zero]) _
      generalize w6.setCell ⟨g4, 0, none⟩ (.int .u64 (r : Int)) = w7 at *
      have m5 : Blk w7 g5 (pth ((m : Int) + 1) 0 0) := o7.blk (o6.blk s5 (Ne.symm gg5)) (Ne.symm g45)
      have own7 := own6.only o7 gg4
      refine wp_region_held_drew (S := fun w' => w' = w7.drew) (by kernel_rfl) rfl (fun hHeld => ?_)
      refine wpAnyH_take' (i := 0) (d := 62) (v := .agg (Wd4.cells ⟨r, 0, 0, 0⟩).toArray) rfl rfl (by kernel_rfl) (by kernel_rfl) (by kernel_rfl) (fun _ _ _ h => h) (yieldsIf_load_mid (by rfl) 65 _ rfl g4 0 rfl (Wd4.cells ⟨r, 0, 0, 0⟩) _ (fun w hw => by subst hw; exact ((Same.drew _).blk m4).cell) Safg.under65 rfl Safg.size65) hHeld ?_
      simp only [Act.put, List.setIfInBounds_toArray, List.set_cons_zero, List.set_cons_succ]
      refine wpAnyH_take' (i := 1) (d := 63) (v := .agg (pth ((m : Int) + 1) 0 0).toArray) rfl rfl (by kernel_rfl) (by kernel_rfl) (by kernel_rfl) (fun _ _ _ h => h) (yieldsIf_load_mid (by rfl) 351 _ rfl g5 0 rfl (pth ((m : Int) + 1) 0 0) _ (fun w hw => by subst hw; exact ((Same.drew _).blk m5).cell) Safg.underlying351 rfl Safg.size351) hHeld ?_
      simp only [Act.put, List.setIfInBounds_toArray, List.set_cons_zero, List.set_cons_succ]
      refine wpAnyH_ready (rs := [2]) (by kernel_rfl) (by simp) ?_
      refine AllReadyH.cons rfl (fun K hK => ?_) AllReadyH.nil
      rw [if_pos (by rfl)]
      refine wp_store_mid 65 _ _ rfl g4 0 (Wd4.cells ⟨r, 0, 0, 0⟩).toArray rfl rfl (self_there ((Same.drew _).blk m4)) Safg.size65 (all_oneCell_toArray (Wd4.one _)) ?_
      rw [setCells_self _ _ ((Same.drew _).blk m4).cell]
      refine hK.out _ _ rfl (fun hHeld => ?_)
      clear hK K
      refine wpAnyH_ready (rs := [3]) (by kernel_rfl) (by simp) ?_
      refine AllReadyH.cons rfl (fun K hK => ?_) AllReadyH.nil
      rw [if_pos (by rfl)]
      refine wp_store_mid 351 _ _ rfl g5 0 (pth ((m : Int) + 1) 0 0).toArray rfl rfl (self_there ((Same.drew _).blk m5)) Safg.size351 (all_oneCell_toArray (pth_one _ _ _)) ?_
      rw [setCells_self _ _ ((Same.drew _).blk m5).cell]
      refine hK.out _ _ rfl (fun hHeld => ?_)
      clear hK K
      refine wpAnyH_done (by kernel_rfl) ?_ _
      go_wp2
      refine bodyPost_ret (results_cell2 Safg.results378 _ _ g4 g5 (Wd4.cells ⟨r, 0, 0, 0⟩) (pth ((m : Int) + 1) 0 0) _ _ rfl rfl ((Same.drew _).blk m4) ((Same.drew _).blk m5) Safg.under65 rfl Safg.size65 Safg.underlying351 rfl Safg.size351) rfl ?_
      have h8 : wv Q 0 8 = wv Q 0 (m + 1) := wv_drop (by omega) (fun i h1 _ => by rw [ab6.2 i (by omega)]; exact ht.zero i h1)
      have hrv : Wd4.val ⟨r, 0, 0, 0⟩ = r := by simp [Wd4.val]
      refine ⟨Q, ⟨r, 0, 0, 0⟩, _, 0, 0, rfl, by rw [ab6.1]; exact hX, lQ, ⟨by show r < _; omega, by show (0 : Nat) < _; omega, by show (0 : Nat) < _; omega, by show (0 : Nat) < _; omega⟩, own7.same (Same.drew _), ?_, fun h => absurd (limbs_pos hl (by omega)) (by omega), fun _ => ⟨by rw [hrv, HVb.out]; exact hr, by rw [hrv, HVb.out, HD8.out, h8]; exact E6⟩⟩
      refine (((T4.then_ (S' := [g5]) (Turn.of_only o5) (fun i hi hlt => absurd hlt (by simp at hi; omega))).trans (Turn.of_only o6)).then_ (S' := [g4]) (Turn.of_only o7) (fun i hi hlt => absurd hlt (by simp at hi; omega))).trans ?_
      exact Turn.drew _ _
end Go.Proofs.YgcsafGreat
