/-
  'u256': AddMod (214), MulMod (215).
-/
import Derived.Test.YgcsafGreatDrawn
namespace Go.Proofs.YgcsafGreat
open Go.RowKit
set_option linter.unusedVariables false
set_option linter.unusedSimpArgs false

def Wd4.one1 : Wd4 := ⟨1, 0, 0, 0⟩
set_option maxRecDepth 100000 in
set_option maxHeartbeats 4000000 in
theorem addMod_any (w : World) (a b m : Wd4) (ha : a.Ok) (hb : b.Ok) (hm : m.Ok) :
    Calls Safg.prog 214 #[a.v, b.v, m.v] w (WdRes w (modW (a.val + b.val) m.val)) := by
  have z0 : Wd4.zero.Ok := ⟨by decide, by decide, by decide, by decide⟩
  have z1 : Wd4.one1.Ok := ⟨by decide, by decide, by decide, by decide⟩
  go_enter Safg.func214, Safg.ntmps214
  go_upto_region 1 with (first | (refine wpList_box_agg rfl 65 (.tmp 0) rfl a.cells rfl ?_; intro w1 g3 hg3 k3 c3) | (refine wpList_box_agg rfl 65 (.tmp 1) rfl b.cells rfl ?_; intro w2 g4 hg4 k4 c4) | (refine wpList_box_agg rfl 65 (.tmp 2) rfl m.cells rfl ?_; intro w3 g5 hg5 k5 c5) | (refine wpList_alloc_agg rfl 65 rfl _ Safg.zero65 ?_; intro w4 g6 hg6 k6 c6))
  have s1 := c3.size; have s2 := c4.size; have s3 := c5.size; have s4 := c6.size
  have l3 := k3.lt; have l4 := k4.lt; have l5 := k5.lt; have l6 := k6.lt
  have b04 : Below w.heap.size w w4 := c3.trans ((c4.mono s1).trans ((c5.mono (by omega)).trans (c6.mono (by omega))))
  have m3 : Blk w4 g3 a.cells := ((k3.below c4 (by omega)).below c5 (by omega)).below c6 (by omega)
  have m4 : Blk w4 g4 b.cells := (k4.below c5 (by omega)).below c6 (by omega)
  have m5 : Blk w4 g5 m.cells := k5.below c6 (by omega)
  clear c3 c4 c5 c6 k3 k4 k5
  go_upto_region 2 with (first | (refine wpList_load_mid rfl 65 (.tmp 3) rfl g3 0 rfl _ _ m3.cell Safg.under65 rfl Safg.size65 ?_) | (refine wpList_load_mid rfl 65 (.tmp 4) rfl g4 0 rfl _ _ m4.cell Safg.under65 rfl Safg.size65 ?_) | (go_at_call 163; refine (addOver_any _ a b ha hb).mono ?_; rintro e w5 ⟨s, k, sok, hk1, hsum, rfl, b5⟩; have HK : Hid (s.val + b256 * k = a.val + b.val) := hsum; clear hsum) | (refine wpList_alloc_agg rfl 65 rfl _ Safg.zero65 ?_; intro w6 g7 hg7 k7 c7) | (refine wpList_store_agg rfl 65 _ _ rfl g7 rfl _ s.cells rfl k7 rfl Safg.size65 (Wd4.one _) ?_; intro w7 k7' o7))
  have s5 := b5.size; have s6 := c7.size; have s7 := o7.size; have l7 := k7'.lt
  have b47 : Below w4.heap.size w4 w7 := b5.trans ((c7.mono s5).trans (o7.below (by omega)))
  have A0 := k7'.get (j := 0) (v := .int .u64 (s.x0 : Int)) rfl
  have A1 := k7'.get (j := 1) (v := .int .u64 (s.x1 : Int)) rfl
  have A2 := k7'.get (j := 2) (v := .int .u64 (s.x2 : Int)) rfl
  have A3 := k7'.get (j := 3) (v := .int .u64 (s.x3 : Int)) rfl
  go_upto_region 3 with (first | (refine wpList_alloc_agg rfl 67 rfl _ Safg.zero67 ?_; intro w8 g9 hg9 k9 c9) | (refine wpList_store_agg rfl 67 _ _ rfl g9 rfl _ (s.cells ++ Wd4.zero.cells) rfl k9 rfl Safg.size67 (one8 _ _) ?_; intro w9 k9' o9))
  have s8 := c9.size; have s9 := o9.size; have l9 := k9'.lt
  have b49 : Below w4.heap.size w4 w9 := b47.trans ((c9.mono b47.size).trans (o9.below (by omega)))
  have n5 : Blk w9 g5 m.cells := m5.below b49 m5.lt
  have n6 : Blk w9 g6 _ := k6.below b49 k6.lt
  have l5' := m5.lt; have l6' := k6.lt
  clear A0 A1 A2 A3
  rcases (show k = 0 ∨ k = 1 by omega) with rfl | rfl
  · have HR := fun w => rem512_any w s Wd4.zero m sok z0 hm
    have e : s.val + b256 * Wd4.zero.val = a.val + b.val := HK.out
    rw [e] at HR
    clear e
    go_upto_region 6 with (first | (refine wpList_load_mid rfl 67 (.tmp 9) rfl g9 0 rfl _ _ k9'.cell Safg.under67 rfl Safg.size67 ?_) | (refine wpList_load_mid rfl 65 (.tmp 5) rfl g5 0 rfl _ _ n5.cell Safg.under65 rfl Safg.size65 ?_) | (go_at_call 334; refine (HR _).mono ?_; rintro e w10 ⟨r, i, j, k, rok, hr, rfl, b10⟩) | (refine wpList_alloc_agg rfl 65 rfl _ Safg.zero65 ?_; intro w11 g10 hg10 k10 c10) | (refine wpList_alloc_agg rfl 351 rfl _ Safg.zero351 ?_; intro w12 g11 hg11 k11 c11; have l10 := k10.lt; have l11 := k11.lt; have k10 := k10.below c11 k10.lt) | (refine wpList_store_agg rfl 65 _ _ rfl g10 rfl _ r.cells rfl k10 rfl Safg.size65 (Wd4.one _) ?_; intro w13 p10 o13; have k11 := o13.blk k11 (by omega)) | (refine wpList_store_agg rfl 351 _ _ rfl g11 rfl _ (pth i j k) rfl k11 rfl Safg.size351 (pth_one _ _ _) ?_; intro w14 p11 o14))
    have t10 := b10.size; have t11 := c10.size; have t12 := c11.size; have t13 := o13.size; have t14 := o14.size
    have r10 : Blk w14 g10 r.cells := o14.blk p10 (by omega)
    have t6 := n6.lt
    have r6 : Blk w14 g6 _ := o14.blk (o13.blk (((n6.below b10 t6).below c10 (by omega)).below c11 (by omega)) (by omega)) (by omega)
    have bb : Below w.heap.size w w14 := b04.trans ((b49.mono b04.size).trans ((b10.mono (by omega)).trans ((c10.mono (by omega)).trans ((c11.mono (by omega)).trans ((o13.below (by omega)).trans (o14.below (by omega)))))))
    go_wp2_with (first | (refine wpList_load_mid rfl 65 (.tmp 10) rfl g10 0 rfl _ _ r10.cell Safg.under65 rfl Safg.size65 ?_) | (refine wpList_store_agg rfl 65 _ _ rfl g6 rfl _ r.cells rfl r6 rfl Safg.size65 (Wd4.one _) ?_; intro w15 p6 o15))
    refine bodyPost_ret (results_cell1 Safg.results214 _ w15 g6 _ _ rfl p6 Safg.under65 rfl Safg.size65) rfl ⟨r, rok, hr, rfl, bb.trans (o15.below (by omega))⟩
  · have q4 : w9.cell? ⟨g9, 4, none⟩ = some (.int .u64 0) := k9'.get (j := 4) rfl
    have f4 := k9'.free 4
    go_upto_region 5 with fail
    have k9s : Blk (w9.setCell ⟨g9, 4, none⟩ (.int .u64 1)) g9 (s.cells ++ Wd4.one1.cells) := k9'.set (k := 4) (by simp [Wd4.cells]) (.int .u64 1)
    have o9s : Only g9 w9 (w9.setCell ⟨g9, 4, none⟩ (.int .u64 1)) := (Only.refl _ _).setCell _ _
    have n5 := o9s.blk n5 (by omega)
    have n6 := o9s.blk n6 (by omega)
    have b49 := b49.trans (o9s.below (B := w4.heap.size) (by omega))
    have sz9 := o9s.size
    generalize w9.setCell ⟨g9, 4, none⟩ (.int .u64 1) = w9' at *
    have HR := fun w => rem512_any w s Wd4.one1 m sok z1 hm
    have e : s.val + b256 * Wd4.one1.val = a.val + b.val := by rw [← HK.out]; rfl
    rw [e] at HR
    clear e
    go_upto_region 6 with (first | (refine wpList_load_mid rfl 67 (.tmp 9) rfl g9 0 rfl _ _ k9s.cell Safg.under67 rfl Safg.size67 ?_) | (refine wpList_load_mid rfl 65 (.tmp 5) rfl g5 0 rfl _ _ n5.cell Safg.under65 rfl Safg.size65 ?_) | (go_at_call 334; refine (HR _).mono ?_; rintro e w10 ⟨r, i, j, k, rok, hr, rfl, b10⟩) | (refine wpList_alloc_agg rfl 65 rfl _ Safg.zero65 ?_; intro w11 g10 hg10 k10 c10) | (refine wpList_alloc_agg rfl 351 rfl _ Safg.zero351 ?_; intro w12 g11 hg11 k11 c11; have l10 := k10.lt; have l11 := k11.lt; have k10 := k10.below c11 k10.lt) | (refine wpList_store_agg rfl 65 _ _ rfl g10 rfl _ r.cells rfl k10 rfl Safg.size65 (Wd4.one _) ?_; intro w13 p10 o13; have k11 := o13.blk k11 (by omega)) | (refine wpList_store_agg rfl 351 _ _ rfl g11 rfl _ (pth i j k) rfl k11 rfl Safg.size351 (pth_one _ _ _) ?_; intro w14 p11 o14))
    have t10 := b10.size; have t11 := c10.size; have t12 := c11.size; have t13 := o13.size; have t14 := o14.size
    have r10 : Blk w14 g10 r.cells := o14.blk p10 (by omega)
    have t6 := n6.lt
    have r6 : Blk w14 g6 _ := o14.blk (o13.blk (((n6.below b10 t6).below c10 (by omega)).below c11 (by omega)) (by omega)) (by omega)
    have bb : Below w.heap.size w w14 := b04.trans ((b49.mono b04.size).trans ((b10.mono (by omega)).trans ((c10.mono (by omega)).trans ((c11.mono (by omega)).trans ((o13.below (by omega)).trans (o14.below (by omega)))))))
    go_wp2_with (first | (refine wpList_load_mid rfl 65 (.tmp 10) rfl g10 0 rfl _ _ r10.cell Safg.under65 rfl Safg.size65 ?_) | (refine wpList_store_agg rfl 65 _ _ rfl g6 rfl _ r.cells rfl r6 rfl Safg.size65 (Wd4.one _) ?_; intro w15 p6 o15))
    refine bodyPost_ret (results_cell1 Safg.results214 _ w15 g6 _ _ rfl p6 Safg.under65 rfl Safg.size65) rfl ⟨r, rok, hr, rfl, bb.trans (o15.below (by omega))⟩

set_option maxRecDepth 100000 in
set_option maxHeartbeats 8000000 in
theorem mulMod_any (w : World) (a b m : Wd4) (ha : a.Ok) (hb : b.Ok) (hm : m.Ok) :
    Calls Safg.prog 215 #[a.v, b.v, m.v] w (WdRes w (modW (a.val * b.val) m.val)) := by
  go_enter Safg.func215, Safg.ntmps215
  go_upto_region 1 with (first | (refine wpList_box_agg rfl 65 (.tmp 0) rfl a.cells rfl ?_; intro w1 g3 hg3 k3 c3) | (refine wpList_box_agg rfl 65 (.tmp 1) rfl b.cells rfl ?_; intro w2 g4 hg4 k4 c4) | (refine wpList_box_agg rfl 65 (.tmp 2) rfl m.cells rfl ?_; intro w3 g5 hg5 k5 c5) | (refine wpList_alloc_agg rfl 65 rfl _ Safg.zero65 ?_; intro w4 g6 hg6 k6 c6))
  have s1 := c3.size; have s2 := c4.size; have s3 := c5.size; have s4 := c6.size
  have l3 := k3.lt; have l4 := k4.lt; have l5 := k5.lt; have l6 := k6.lt
  have b04 : Below w.heap.size w w4 := c3.trans ((c4.mono s1).trans ((c5.mono (by omega)).trans (c6.mono (by omega))))
  have m3 : Blk w4 g3 a.cells := ((k3.below c4 (by omega)).below c5 (by omega)).below c6 (by omega)
  have m4 : Blk w4 g4 b.cells := (k4.below c5 (by omega)).below c6 (by omega)
  have m5 : Blk w4 g5 m.cells := k5.below c6 (by omega)
  have l3' := m3.lt; have l4' := m4.lt; have l5' := m5.lt
  clear c3 c4 c5 c6 k3 k4 k5
  simp only [Act.put, List.setIfInBounds_toArray, List.set_cons_zero, List.set_cons_succ]
  go_cut [7] (fun c wx => ∃ (g7 : Nat) (r : Wd4), c = .pointer (some ⟨g7, 0, none⟩) ∧ w4.heap.size ≤ g7 ∧ Blk wx g7 r.cells ∧ r.Ok ∧ r.val = modW (a.val * b.val) m.val ∧ Below w4.heap.size w4 wx)
  case first =>
    refine wp_region_held_drew (S := fun w' => Below w4.heap.size w4 w') (by kernel_rfl) (Turn.drew_below w4) (fun hHeld => ?_)
    refine wpAnyH_take' (i := 0) (d := 10) (v := .agg a.cells.toArray) rfl rfl (by kernel_rfl) (by kernel_rfl) (by kernel_rfl) (fun _ _ _ h => h) (yieldsIf_load_mid (by rfl) 65 _ rfl g3 0 rfl a.cells _ (fun w hw => (m3.below hw l3').cell) Safg.under65 rfl Safg.size65) hHeld ?_
    simp only [Act.put, List.setIfInBounds_toArray, List.set_cons_zero, List.set_cons_succ]
    refine wpAnyH_take' (i := 1) (d := 11) (v := .agg b.cells.toArray) rfl rfl (by kernel_rfl) (by kernel_rfl) (by kernel_rfl) (fun _ _ _ h => h) (yieldsIf_load_mid (by rfl) 65 _ rfl g4 0 rfl b.cells _ (fun w hw => (m4.below hw l4').cell) Safg.under65 rfl Safg.size65) hHeld ?_
    simp only [Act.put, List.setIfInBounds_toArray, List.set_cons_zero, List.set_cons_succ]
    refine wpAnyH_take' (i := 3) (d := 13) (v := .agg m.cells.toArray) rfl rfl (by kernel_rfl) (by kernel_rfl) (by kernel_rfl) (fun _ _ _ h => h) (yieldsIf_load_mid (by rfl) 65 _ rfl g5 0 rfl m.cells _ (fun w hw => (m5.below hw l5').cell) Safg.under65 rfl Safg.size65) hHeld ?_
    simp only [Act.put, List.setIfInBounds_toArray, List.set_cons_zero, List.set_cons_succ]
    refine wpAnyH_three 2 8 9 (by kernel_rfl) rfl rfl rfl rfl rfl rfl ?_ ?_ ?_
    · refine wp_callR Safg.func303 (by kernel_rfl) (by kernel_rfl) (mul512_any _ a b ha hb) rfl rfl ?_
      rintro e w5 ⟨lo, hi, lok, hok, hv, rfl, b4⟩
      refine ⟨_, rfl, ?_⟩
      have hHeld := hHeld.trans (b4.mono hHeld.size)
      refine ⟨hHeld, ?_⟩
      simp only [Act.put, List.setIfInBounds_toArray, List.set_cons_zero, List.set_cons_succ]
      refine wpAnyH_three 4 8 9 (by kernel_rfl) rfl rfl rfl rfl rfl rfl ?_ ?_ ?_
      · refine wp_callR Safg.func334 (by kernel_rfl) (by kernel_rfl) (rem512_any _ lo hi m lok hok hm) rfl rfl ?_
        rintro e w5 ⟨r, i, j, k, rok, hr, rfl, b4⟩
        refine ⟨_, rfl, ?_⟩
        have hHeld := hHeld.trans (b4.mono hHeld.size)
        refine ⟨hHeld, ?_⟩
        simp only [Act.put, List.setIfInBounds_toArray, List.set_cons_zero, List.set_cons_succ]
        refine wpAnyH_take' (i := 5) (d := 9) (v := .tuple #[r.v, .agg (pth i j k).toArray]) rfl rfl (by kernel_rfl) (by kernel_rfl) (by kernel_rfl) (fun _ _ _ h => h) (Or.inl ⟨by rfl, fun w hw => by first | (go_simp; done) | (go_simp; cases p <;> cases n <;> rfl)⟩) hHeld ?_
        simp only [Act.put, List.setIfInBounds_toArray, List.set_cons_zero, List.set_cons_succ]
        refine wpAnyH_take' (i := 6) (d := 15) (v := r.v) rfl rfl (by kernel_rfl) (by kernel_rfl) (by kernel_rfl) (fun _ _ _ h => h) (Or.inl ⟨by rfl, fun w hw => by first | (go_simp; done) | (go_simp; cases p <;> cases n <;> rfl)⟩) hHeld ?_
        simp only [Act.put, List.setIfInBounds_toArray, List.set_cons_zero, List.set_cons_succ]
        refine wpAnyH_take' (i := 7) (d := 16) (v := .agg (pth i j k).toArray) rfl rfl (by kernel_rfl) (by kernel_rfl) (by kernel_rfl) (fun _ _ _ h => h) (Or.inl ⟨by rfl, fun w hw => by first | (go_simp; done) | (go_simp; cases p <;> cases n <;> rfl)⟩) hHeld ?_
        simp only [Act.put, List.setIfInBounds_toArray, List.set_cons_zero, List.set_cons_succ]
        refine wpAnyH_two 8 9 (by kernel_rfl) rfl rfl rfl rfl ?_ ?_
        · refine wp_allocR 65 rfl _ Safg.zero65 ?_
          intro w5 g7 hg7 k7 b4
          have h7 : w4.heap.size ≤ g7 := Nat.le_trans hHeld.size hg7
          have hHeld := hHeld.trans (b4.mono hHeld.size)
          refine ⟨hHeld, ?_⟩
          simp only [Act.put, List.setIfInBounds_toArray, List.set_cons_zero, List.set_cons_succ]
          refine wpAnyH_one 9 (by kernel_rfl) rfl rfl ?_
          · refine wp_allocR 351 rfl _ Safg.zero351 ?_
            intro w5 g8 hg8 k8 b4
            have h8 : w4.heap.size ≤ g8 := Nat.le_trans hHeld.size hg8
            have l7 := k7.lt
            have n78 : g7 ≠ g8 := by omega
            have k7 := k7.below b4 k7.lt
            have hHeld := hHeld.trans (b4.mono hHeld.size)
            refine ⟨hHeld, ?_⟩
            simp only [Act.put, List.setIfInBounds_toArray, List.set_cons_zero, List.set_cons_succ]
            refine wpAnyH_one 10 (by kernel_rfl) rfl rfl ?_
            refine wp_storeR 65 _ _ rfl g7 rfl _ r.cells rfl k7 rfl Safg.size65 (Wd4.one _) ?_
            intro w5 k7 o7
            have k8 := o7.blk k8 (by omega)
            have hHeld := hHeld.trans (o7.below h7)
            refine ⟨hHeld, ?_⟩
            simp only [Act.put, List.setIfInBounds_toArray, List.set_cons_zero, List.set_cons_succ]
            refine wpAnyH_one 11 (by kernel_rfl) rfl rfl ?_
            refine wp_storeR 351 _ _ rfl g8 rfl _ (pth i j k) rfl k8 rfl Safg.size351 (pth_one _ _ _) ?_
            intro w6 k8 o8
            have k7 := o8.blk k7 (by omega)
            have hHeld := hHeld.trans (o8.below h8)
            refine ⟨hHeld, ?_⟩
            simp only [Act.put, List.setIfInBounds_toArray, List.set_cons_zero, List.set_cons_succ]
            refine wpAnyH_done (by kernel_rfl) ?_ _
            go_wp2_with fail
            go_meet
            exact ⟨g7, r, rfl, h7, k7, rok, by rw [hr, hv]; rfl, hHeld⟩
        · refine wp_allocR 351 rfl _ Safg.zero351 ?_
          intro w5 g8 hg8 k8 b4
          have h8 : w4.heap.size ≤ g8 := Nat.le_trans hHeld.size hg8
          have hHeld := hHeld.trans (b4.mono hHeld.size)
          refine ⟨hHeld, ?_⟩
          simp only [Act.put, List.setIfInBounds_toArray, List.set_cons_zero, List.set_cons_succ]
          refine wpAnyH_one 8 (by kernel_rfl) rfl rfl ?_
          · refine wp_allocR 65 rfl _ Safg.zero65 ?_
            intro w5 g7 hg7 k7 b4
            have h7 : w4.heap.size ≤ g7 := Nat.le_trans hHeld.size hg7
            have l8 := k8.lt
            have n78 : g7 ≠ g8 := by omega
            have k8 := k8.below b4 k8.lt
            have hHeld := hHeld.trans (b4.mono hHeld.size)
            refine ⟨hHeld, ?_⟩
            simp only [Act.put, List.setIfInBounds_toArray, List.set_cons_zero, List.set_cons_succ]
            refine wpAnyH_one 10 (by kernel_rfl) rfl rfl ?_
            refine wp_storeR 65 _ _ rfl g7 rfl _ r.cells rfl k7 rfl Safg.size65 (Wd4.one _) ?_
            intro w5 k7 o7
            have k8 := o7.blk k8 (by omega)
            have hHeld := hHeld.trans (o7.below h7)
            refine ⟨hHeld, ?_⟩
            simp only [Act.put, List.setIfInBounds_toArray, List.set_cons_zero, List.set_cons_succ]
            refine wpAnyH_one 11 (by kernel_rfl) rfl rfl ?_
            refine wp_storeR 351 _ _ rfl g8 rfl _ (pth i j k) rfl k8 rfl Safg.size351 (pth_one _ _ _) ?_
            intro w6 k8 o8
            have k7 := o8.blk k7 (by omega)
            have hHeld := hHeld.trans (o8.below h8)
            refine ⟨hHeld, ?_⟩
            simp only [Act.put, List.setIfInBounds_toArray, List.set_cons_zero, List.set_cons_succ]
            refine wpAnyH_done (by kernel_rfl) ?_ _
            go_wp2_with fail
            go_meet
            exact ⟨g7, r, rfl, h7, k7, rok, by rw [hr, hv]; rfl, hHeld⟩
      · refine wp_allocR 65 rfl _ Safg.zero65 ?_
        intro w5 g7 hg7 k7 b4
        have h7 : w4.heap.size ≤ g7 := Nat.le_trans hHeld.size hg7
        have hHeld := hHeld.trans (b4.mono hHeld.size)
        refine ⟨hHeld, ?_⟩
        simp only [Act.put, List.setIfInBounds_toArray, List.set_cons_zero, List.set_cons_succ]
        refine wpAnyH_two 4 9 (by kernel_rfl) rfl rfl rfl rfl ?_ ?_
        · refine wp_callR Safg.func334 (by kernel_rfl) (by kernel_rfl) (rem512_any _ lo hi m lok hok hm) rfl rfl ?_
          rintro e w5 ⟨r, i, j, k, rok, hr, rfl, b4⟩
          have k7 := k7.below b4 k7.lt
          refine ⟨_, rfl, ?_⟩
          have hHeld := hHeld.trans (b4.mono hHeld.size)
          refine ⟨hHeld, ?_⟩
          simp only [Act.put, List.setIfInBounds_toArray, List.set_cons_zero, List.set_cons_succ]
          refine wpAnyH_take' (i := 5) (d := 9) (v := .tuple #[r.v, .agg (pth i j k).toArray]) rfl rfl (by kernel_rfl) (by kernel_rfl) (by kernel_rfl) (fun _ _ _ h => h) (Or.inl ⟨by rfl, fun w hw => by first | (go_simp; done) | (go_simp; cases p <;> cases n <;> rfl)⟩) hHeld ?_
          simp only [Act.put, List.setIfInBounds_toArray, List.set_cons_zero, List.set_cons_succ]
          refine wpAnyH_take' (i := 6) (d := 15) (v := r.v) rfl rfl (by kernel_rfl) (by kernel_rfl) (by kernel_rfl) (fun _ _ _ h => h) (Or.inl ⟨by rfl, fun w hw => by first | (go_simp; done) | (go_simp; cases p <;> cases n <;> rfl)⟩) hHeld ?_
          simp only [Act.put, List.setIfInBounds_toArray, List.set_cons_zero, List.set_cons_succ]
          refine wpAnyH_take' (i := 7) (d := 16) (v := .agg (pth i j k).toArray) rfl rfl (by kernel_rfl) (by kernel_rfl) (by kernel_rfl) (fun _ _ _ h => h) (Or.inl ⟨by rfl, fun w hw => by first | (go_simp; done) | (go_simp; cases p <;> cases n <;> rfl)⟩) hHeld ?_
          simp only [Act.put, List.setIfInBounds_toArray, List.set_cons_zero, List.set_cons_succ]
          refine wpAnyH_one 9 (by kernel_rfl) rfl rfl ?_
          · refine wp_allocR 351 rfl _ Safg.zero351 ?_
            intro w5 g8 hg8 k8 b4
            have h8 : w4.heap.size ≤ g8 := Nat.le_trans hHeld.size hg8
            have l7 := k7.lt
            have n78 : g7 ≠ g8 := by omega
            have k7 := k7.below b4 k7.lt
            have hHeld := hHeld.trans (b4.mono hHeld.size)
            refine ⟨hHeld, ?_⟩
            simp only [Act.put, List.setIfInBounds_toArray, List.set_cons_zero, List.set_cons_succ]
            refine wpAnyH_one 10 (by kernel_rfl) rfl rfl ?_
            refine wp_storeR 65 _ _ rfl g7 rfl _ r.cells rfl k7 rfl Safg.size65 (Wd4.one _) ?_
            intro w5 k7 o7
            have k8 := o7.blk k8 (by omega)
            have hHeld := hHeld.trans (o7.below h7)
            refine ⟨hHeld, ?_⟩
            simp only [Act.put, List.setIfInBounds_toArray, List.set_cons_zero, List.set_cons_succ]
            refine wpAnyH_one 11 (by kernel_rfl) rfl rfl ?_
            refine wp_storeR 351 _ _ rfl g8 rfl _ (pth i j k) rfl k8 rfl Safg.size351 (pth_one _ _ _) ?_
            intro w6 k8 o8
            have k7 := o8.blk k7 (by omega)
            have hHeld := hHeld.trans (o8.below h8)
            refine ⟨hHeld, ?_⟩
            simp only [Act.put, List.setIfInBounds_toArray, List.set_cons_zero, List.set_cons_succ]
            refine wpAnyH_done (by kernel_rfl) ?_ _
            go_wp2_with fail
            go_meet
            exact ⟨g7, r, rfl, h7, k7, rok, by rw [hr, hv]; rfl, hHeld⟩
        · refine wp_allocR 351 rfl _ Safg.zero351 ?_
          intro w5 g8 hg8 k8 b4
          have h8 : w4.heap.size ≤ g8 := Nat.le_trans hHeld.size hg8
          have l7 := k7.lt
          have n78 : g7 ≠ g8 := by omega
          have k7 := k7.below b4 k7.lt
          have hHeld := hHeld.trans (b4.mono hHeld.size)
          refine ⟨hHeld, ?_⟩
          simp only [Act.put, List.setIfInBounds_toArray, List.set_cons_zero, List.set_cons_succ]
          refine wpAnyH_one 4 (by kernel_rfl) rfl rfl ?_
          · refine wp_callR Safg.func334 (by kernel_rfl) (by kernel_rfl) (rem512_any _ lo hi m lok hok hm) rfl rfl ?_
            rintro e w5 ⟨r, i, j, k, rok, hr, rfl, b4⟩
            have k7 := k7.below b4 k7.lt
            have k8 := k8.below b4 k8.lt
            refine ⟨_, rfl, ?_⟩
            have hHeld := hHeld.trans (b4.mono hHeld.size)
            refine ⟨hHeld, ?_⟩
            simp only [Act.put, List.setIfInBounds_toArray, List.set_cons_zero, List.set_cons_succ]
            refine wpAnyH_take' (i := 5) (d := 9) (v := .tuple #[r.v, .agg (pth i j k).toArray]) rfl rfl (by kernel_rfl) (by kernel_rfl) (by kernel_rfl) (fun _ _ _ h => h) (Or.inl ⟨by rfl, fun w hw => by first | (go_simp; done) | (go_simp; cases p <;> cases n <;> rfl)⟩) hHeld ?_
            simp only [Act.put, List.setIfInBounds_toArray, List.set_cons_zero, List.set_cons_succ]
            refine wpAnyH_take' (i := 6) (d := 15) (v := r.v) rfl rfl (by kernel_rfl) (by kernel_rfl) (by kernel_rfl) (fun _ _ _ h => h) (Or.inl ⟨by rfl, fun w hw => by first | (go_simp; done) | (go_simp; cases p <;> cases n <;> rfl)⟩) hHeld ?_
            simp only [Act.put, List.setIfInBounds_toArray, List.set_cons_zero, List.set_cons_succ]
            refine wpAnyH_take' (i := 7) (d := 16) (v := .agg (pth i j k).toArray) rfl rfl (by kernel_rfl) (by kernel_rfl) (by kernel_rfl) (fun _ _ _ h => h) (Or.inl ⟨by rfl, fun w hw => by first | (go_simp; done) | (go_simp; cases p <;> cases n <;> rfl)⟩) hHeld ?_
            simp only [Act.put, List.setIfInBounds_toArray, List.set_cons_zero, List.set_cons_succ]
            refine wpAnyH_one 10 (by kernel_rfl) rfl rfl ?_
            refine wp_storeR 65 _ _ rfl g7 rfl _ r.cells rfl k7 rfl Safg.size65 (Wd4.one _) ?_
            intro w5 k7 o7
            have k8 := o7.blk k8 (by omega)
            have hHeld := hHeld.trans (o7.below h7)
            refine ⟨hHeld, ?_⟩
            simp only [Act.put, List.setIfInBounds_toArray, List.set_cons_zero, List.set_cons_succ]
            refine wpAnyH_one 11 (by kernel_rfl) rfl rfl ?_
            refine wp_storeR 351 _ _ rfl g8 rfl _ (pth i j k) rfl k8 rfl Safg.size351 (pth_one _ _ _) ?_
            intro w6 k8 o8
            have k7 := o8.blk k7 (by omega)
            have hHeld := hHeld.trans (o8.below h8)
            refine ⟨hHeld, ?_⟩
            simp only [Act.put, List.setIfInBounds_toArray, List.set_cons_zero, List.set_cons_succ]
            refine wpAnyH_done (by kernel_rfl) ?_ _
            go_wp2_with fail
            go_meet
            exact ⟨g7, r, rfl, h7, k7, rok, by rw [hr, hv]; rfl, hHeld⟩
      · refine wp_allocR 351 rfl _ Safg.zero351 ?_
        intro w5 g8 hg8 k8 b4
        have h8 : w4.heap.size ≤ g8 := Nat.le_trans hHeld.size hg8
        have hHeld := hHeld.trans (b4.mono hHeld.size)
        refine ⟨hHeld, ?_⟩
        simp only [Act.put, List.setIfInBounds_toArray, List.set_cons_zero, List.set_cons_succ]
        refine wpAnyH_two 4 8 (by kernel_rfl) rfl rfl rfl rfl ?_ ?_
        · refine wp_callR Safg.func334 (by kernel_rfl) (by kernel_rfl) (rem512_any _ lo hi m lok hok hm) rfl rfl ?_
          rintro e w5 ⟨r, i, j, k, rok, hr, rfl, b4⟩
          have k8 := k8.below b4 k8.lt
          refine ⟨_, rfl, ?_⟩
          have hHeld := hHeld.trans (b4.mono hHeld.size)
          refine ⟨hHeld, ?_⟩
          simp only [Act.put, List.setIfInBounds_toArray, List.set_cons_zero, List.set_cons_succ]
          refine wpAnyH_take' (i := 5) (d := 9) (v := .tuple #[r.v, .agg (pth i j k).toArray]) rfl rfl (by kernel_rfl) (by kernel_rfl) (by kernel_rfl) (fun _ _ _ h => h) (Or.inl ⟨by rfl, fun w hw => by first | (go_simp; done) | (go_simp; cases p <;> cases n <;> rfl)⟩) hHeld ?_
          simp only [Act.put, List.setIfInBounds_toArray, List.set_cons_zero, List.set_cons_succ]
          refine wpAnyH_take' (i := 6) (d := 15) (v := r.v) rfl rfl (by kernel_rfl) (by kernel_rfl) (by kernel_rfl) (fun _ _ _ h => h) (Or.inl ⟨by rfl, fun w hw => by first | (go_simp; done) | (go_simp; cases p <;> cases n <;> rfl)⟩) hHeld ?_
          simp only [Act.put, List.setIfInBounds_toArray, List.set_cons_zero, List.set_cons_succ]
          refine wpAnyH_take' (i := 7) (d := 16) (v := .agg (pth i j k).toArray) rfl rfl (by kernel_rfl) (by kernel_rfl) (by kernel_rfl) (fun _ _ _ h => h) (Or.inl ⟨by rfl, fun w hw => by first | (go_simp; done) | (go_simp; cases p <;> cases n <;> rfl)⟩) hHeld ?_
          simp only [Act.put, List.setIfInBounds_toArray, List.set_cons_zero, List.set_cons_succ]
          refine wpAnyH_one 8 (by kernel_rfl) rfl rfl ?_
          · refine wp_allocR 65 rfl _ Safg.zero65 ?_
            intro w5 g7 hg7 k7 b4
            have h7 : w4.heap.size ≤ g7 := Nat.le_trans hHeld.size hg7
            have l8 := k8.lt
            have n78 : g7 ≠ g8 := by omega
            have k8 := k8.below b4 k8.lt
            have hHeld := hHeld.trans (b4.mono hHeld.size)
            refine ⟨hHeld, ?_⟩
            simp only [Act.put, List.setIfInBounds_toArray, List.set_cons_zero, List.set_cons_succ]
            refine wpAnyH_one 10 (by kernel_rfl) rfl rfl ?_
            refine wp_storeR 65 _ _ rfl g7 rfl _ r.cells rfl k7 rfl Safg.size65 (Wd4.one _) ?_
            intro w5 k7 o7
            have k8 := o7.blk k8 (by omega)
            have hHeld := hHeld.trans (o7.below h7)
            refine ⟨hHeld, ?_⟩
            simp only [Act.put, List.setIfInBounds_toArray, List.set_cons_zero, List.set_cons_succ]
            refine wpAnyH_one 11 (by kernel_rfl) rfl rfl ?_
            refine wp_storeR 351 _ _ rfl g8 rfl _ (pth i j k) rfl k8 rfl Safg.size351 (pth_one _ _ _) ?_
            intro w6 k8 o8
            have k7 := o8.blk k7 (by omega)
            have hHeld := hHeld.trans (o8.below h8)
            refine ⟨hHeld, ?_⟩
            simp only [Act.put, List.setIfInBounds_toArray, List.set_cons_zero, List.set_cons_succ]
            refine wpAnyH_done (by kernel_rfl) ?_ _
            go_wp2_with fail
            go_meet
            exact ⟨g7, r, rfl, h7, k7, rok, by rw [hr, hv]; rfl, hHeld⟩
        · refine wp_allocR 65 rfl _ Safg.zero65 ?_
          intro w5 g7 hg7 k7 b4
          have h7 : w4.heap.size ≤ g7 := Nat.le_trans hHeld.size hg7
          have l8 := k8.lt
          have n78 : g7 ≠ g8 := by omega
          have k8 := k8.below b4 k8.lt
          have hHeld := hHeld.trans (b4.mono hHeld.size)
          refine ⟨hHeld, ?_⟩
          simp only [Act.put, List.setIfInBounds_toArray, List.set_cons_zero, List.set_cons_succ]
          refine wpAnyH_one 4 (by kernel_rfl) rfl rfl ?_
          · refine wp_callR Safg.func334 (by kernel_rfl) (by kernel_rfl) (rem512_any _ lo hi m lok hok hm) rfl rfl ?_
            rintro e w5 ⟨r, i, j, k, rok, hr, rfl, b4⟩
            have k7 := k7.below b4 k7.lt
            have k8 := k8.below b4 k8.lt
            refine ⟨_, rfl, ?_⟩
            have hHeld := hHeld.trans (b4.mono hHeld.size)
            refine ⟨hHeld, ?_⟩
            simp only [Act.put, List.setIfInBounds_toArray, List.set_cons_zero, List.set_cons_succ]
            refine wpAnyH_take' (i := 5) (d := 9) (v := .tuple #[r.v, .agg (pth i j k).toArray]) rfl rfl (by kernel_rfl) (by kernel_rfl) (by kernel_rfl) (fun _ _ _ h => h) (Or.inl ⟨by rfl, fun w hw => by first | (go_simp; done) | (go_simp; cases p <;> cases n <;> rfl)⟩) hHeld ?_
            simp only [Act.put, List.setIfInBounds_toArray, List.set_cons_zero, List.set_cons_succ]
            refine wpAnyH_take' (i := 6) (d := 15) (v := r.v) rfl rfl (by kernel_rfl) (by kernel_rfl) (by kernel_rfl) (fun _ _ _ h => h) (Or.inl ⟨by rfl, fun w hw => by first | (go_simp; done) | (go_simp; cases p <;> cases n <;> rfl)⟩) hHeld ?_
            simp only [Act.put, List.setIfInBounds_toArray, List.set_cons_zero, List.set_cons_succ]
            refine wpAnyH_take' (i := 7) (d := 16) (v := .agg (pth i j k).toArray) rfl rfl (by kernel_rfl) (by kernel_rfl) (by kernel_rfl) (fun _ _ _ h => h) (Or.inl ⟨by rfl, fun w hw => by first | (go_simp; done) | (go_simp; cases p <;> cases n <;> rfl)⟩) hHeld ?_
            simp only [Act.put, List.setIfInBounds_toArray, List.set_cons_zero, List.set_cons_succ]
            refine wpAnyH_one 10 (by kernel_rfl) rfl rfl ?_
            refine wp_storeR 65 _ _ rfl g7 rfl _ r.cells rfl k7 rfl Safg.size65 (Wd4.one _) ?_
            intro w5 k7 o7
            have k8 := o7.blk k8 (by omega)
            have hHeld := hHeld.trans (o7.below h7)
            refine ⟨hHeld, ?_⟩
            simp only [Act.put, List.setIfInBounds_toArray, List.set_cons_zero, List.set_cons_succ]
            refine wpAnyH_one 11 (by kernel_rfl) rfl rfl ?_
            refine wp_storeR 351 _ _ rfl g8 rfl _ (pth i j k) rfl k8 rfl Safg.size351 (pth_one _ _ _) ?_
            intro w6 k8 o8
            have k7 := o8.blk k7 (by omega)
            have hHeld := hHeld.trans (o8.below h8)
            refine ⟨hHeld, ?_⟩
            simp only [Act.put, List.setIfInBounds_toArray, List.set_cons_zero, List.set_cons_succ]
            refine wpAnyH_done (by kernel_rfl) ?_ _
            go_wp2_with fail
            go_meet
            exact ⟨g7, r, rfl, h7, k7, rok, by rw [hr, hv]; rfl, hHeld⟩
    · refine wp_allocR 65 rfl _ Safg.zero65 ?_
      intro w5 g7 hg7 k7 b4
      have h7 : w4.heap.size ≤ g7 := Nat.le_trans hHeld.size hg7
      have hHeld := hHeld.trans (b4.mono hHeld.size)
      refine ⟨hHeld, ?_⟩
      simp only [Act.put, List.setIfInBounds_toArray, List.set_cons_zero, List.set_cons_succ]
      refine wpAnyH_two 2 9 (by kernel_rfl) rfl rfl rfl rfl ?_ ?_
      · refine wp_callR Safg.func303 (by kernel_rfl) (by kernel_rfl) (mul512_any _ a b ha hb) rfl rfl ?_
        rintro e w5 ⟨lo, hi, lok, hok, hv, rfl, b4⟩
        have k7 := k7.below b4 k7.lt
        refine ⟨_, rfl, ?_⟩
        have hHeld := hHeld.trans (b4.mono hHeld.size)
        refine ⟨hHeld, ?_⟩
        simp only [Act.put, List.setIfInBounds_toArray, List.set_cons_zero, List.set_cons_succ]
        refine wpAnyH_two 4 9 (by kernel_rfl) rfl rfl rfl rfl ?_ ?_
        · refine wp_callR Safg.func334 (by kernel_rfl) (by kernel_rfl) (rem512_any _ lo hi m lok hok hm) rfl rfl ?_
          rintro e w5 ⟨r, i, j, k, rok, hr, rfl, b4⟩
          have k7 := k7.below b4 k7.lt
          refine ⟨_, rfl, ?_⟩
          have hHeld := hHeld.trans (b4.mono hHeld.size)
          refine ⟨hHeld, ?_⟩
          simp only [Act.put, List.setIfInBounds_toArray, List.set_cons_zero, List.set_cons_succ]
          refine wpAnyH_take' (i := 5) (d := 9) (v := .tuple #[r.v, .agg (pth i j k).toArray]) rfl rfl (by kernel_rfl) (by kernel_rfl) (by kernel_rfl) (fun _ _ _ h => h) (Or.inl ⟨by rfl, fun w hw => by first | (go_simp; done) | (go_simp; cases p <;> cases n <;> rfl)⟩) hHeld ?_
          simp only [Act.put, List.setIfInBounds_toArray, List.set_cons_zero, List.set_cons_succ]
          refine wpAnyH_take' (i := 6) (d := 15) (v := r.v) rfl rfl (by kernel_rfl) (by kernel_rfl) (by kernel_rfl) (fun _ _ _ h => h) (Or.inl ⟨by rfl, fun w hw => by first | (go_simp; done) | (go_simp; cases p <;> cases n <;> rfl)⟩) hHeld ?_
          simp only [Act.put, List.setIfInBounds_toArray, List.set_cons_zero, List.set_cons_succ]
          refine wpAnyH_take' (i := 7) (d := 16) (v := .agg (pth i j k).toArray) rfl rfl (by kernel_rfl) (by kernel_rfl) (by kernel_rfl) (fun _ _ _ h => h) (Or.inl ⟨by rfl, fun w hw => by first | (go_simp; done) | (go_simp; cases p <;> cases n <;> rfl)⟩) hHeld ?_
          simp only [Act.put, List.setIfInBounds_toArray, List.set_cons_zero, List.set_cons_succ]
          refine wpAnyH_one 9 (by kernel_rfl) rfl rfl ?_
          · refine wp_allocR 351 rfl _ Safg.zero351 ?_
            intro w5 g8 hg8 k8 b4
            have h8 : w4.heap.size ≤ g8 := Nat.le_trans hHeld.size hg8
            have l7 := k7.lt
            have n78 : g7 ≠ g8 := by omega
            have k7 := k7.below b4 k7.lt
            have hHeld := hHeld.trans (b4.mono hHeld.size)
            refine ⟨hHeld, ?_⟩
            simp only [Act.put, List.setIfInBounds_toArray, List.set_cons_zero, List.set_cons_succ]
            refine wpAnyH_one 10 (by kernel_rfl) rfl rfl ?_
            refine wp_storeR 65 _ _ rfl g7 rfl _ r.cells rfl k7 rfl Safg.size65 (Wd4.one _) ?_
            intro w5 k7 o7
            have k8 := o7.blk k8 (by omega)
            have hHeld := hHeld.trans (o7.below h7)
            refine ⟨hHeld, ?_⟩
            simp only [Act.put, List.setIfInBounds_toArray, List.set_cons_zero, List.set_cons_succ]
            refine wpAnyH_one 11 (by kernel_rfl) rfl rfl ?_
            refine wp_storeR 351 _ _ rfl g8 rfl _ (pth i j k) rfl k8 rfl Safg.size351 (pth_one _ _ _) ?_
            intro w6 k8 o8
            have k7 := o8.blk k7 (by omega)
            have hHeld := hHeld.trans (o8.below h8)
            refine ⟨hHeld, ?_⟩
            simp only [Act.put, List.setIfInBounds_toArray, List.set_cons_zero, List.set_cons_succ]
            refine wpAnyH_done (by kernel_rfl) ?_ _
            go_wp2_with fail
            go_meet
            exact ⟨g7, r, rfl, h7, k7, rok, by rw [hr, hv]; rfl, hHeld⟩
        · refine wp_allocR 351 rfl _ Safg.zero351 ?_
          intro w5 g8 hg8 k8 b4
          have h8 : w4.heap.size ≤ g8 := Nat.le_trans hHeld.size hg8
          have l7 := k7.lt
          have n78 : g7 ≠ g8 := by omega
          have k7 := k7.below b4 k7.lt
          have hHeld := hHeld.trans (b4.mono hHeld.size)
          refine ⟨hHeld, ?_⟩
          simp only [Act.put, List.setIfInBounds_toArray, List.set_cons_zero, List.set_cons_succ]
          refine wpAnyH_one 4 (by kernel_rfl) rfl rfl ?_
          · refine wp_callR Safg.func334 (by kernel_rfl) (by kernel_rfl) (rem512_any _ lo hi m lok hok hm) rfl rfl ?_
            rintro e w5 ⟨r, i, j, k, rok, hr, rfl, b4⟩
            have k7 := k7.below b4 k7.lt
            have k8 := k8.below b4 k8.lt
            refine ⟨_, rfl, ?_⟩
            have hHeld := hHeld.trans (b4.mono hHeld.size)
            refine ⟨hHeld, ?_⟩
            simp only [Act.put, List.setIfInBounds_toArray, List.set_cons_zero, List.set_cons_succ]
            refine wpAnyH_take' (i := 5) (d := 9) (v := .tuple #[r.v, .agg (pth i j k).toArray]) rfl rfl (by kernel_rfl) (by kernel_rfl) (by kernel_rfl) (fun _ _ _ h => h) (Or.inl ⟨by rfl, fun w hw => by first | (go_simp; done) | (go_simp; cases p <;> cases n <;> rfl)⟩) hHeld ?_
            simp only [Act.put, List.setIfInBounds_toArray, List.set_cons_zero, List.set_cons_succ]
            refine wpAnyH_take' (i := 6) (d := 15) (v := r.v) rfl rfl (by kernel_rfl) (by kernel_rfl) (by kernel_rfl) (fun _ _ _ h => h) (Or.inl ⟨by rfl, fun w hw => by first | (go_simp; done) | (go_simp; cases p <;> cases n <;> rfl)⟩) hHeld ?_
            simp only [Act.put, List.setIfInBounds_toArray, List.set_cons_zero, List.set_cons_succ]
            refine wpAnyH_take' (i := 7) (d := 16) (v := .agg (pth i j k).toArray) rfl rfl (by kernel_rfl) (by kernel_rfl) (by kernel_rfl) (fun _ _ _ h => h) (Or.inl ⟨by rfl, fun w hw => by first | (go_simp; done) | (go_simp; cases p <;> cases n <;> rfl)⟩) hHeld ?_
            simp only [Act.put, List.setIfInBounds_toArray, List.set_cons_zero, List.set_cons_succ]
            refine wpAnyH_one 10 (by kernel_rfl) rfl rfl ?_
            refine wp_storeR 65 _ _ rfl g7 rfl _ r.cells rfl k7 rfl Safg.size65 (Wd4.one _) ?_
            intro w5 k7 o7
            have k8 := o7.blk k8 (by omega)
            have hHeld := hHeld.trans (o7.below h7)
            refine ⟨hHeld, ?_⟩
            simp only [Act.put, List.setIfInBounds_toArray, List.set_cons_zero, List.set_cons_succ]
            refine wpAnyH_one 11 (by kernel_rfl) rfl rfl ?_
            refine wp_storeR 351 _ _ rfl g8 rfl _ (pth i j k) rfl k8 rfl Safg.size351 (pth_one _ _ _) ?_
            intro w6 k8 o8
            have k7 := o8.blk k7 (by omega)
            have hHeld := hHeld.trans (o8.below h8)
            refine ⟨hHeld, ?_⟩
            simp only [Act.put, List.setIfInBounds_toArray, List.set_cons_zero, List.set_cons_succ]
            refine wpAnyH_done (by kernel_rfl) ?_ _
            go_wp2_with fail
            go_meet
            exact ⟨g7, r, rfl, h7, k7, rok, by rw [hr, hv]; rfl, hHeld⟩
      · refine wp_allocR 351 rfl _ Safg.zero351 ?_
        intro w5 g8 hg8 k8 b4
        have h8 : w4.heap.size ≤ g8 := Nat.le_trans hHeld.size hg8
        have l7 := k7.lt
        have n78 : g7 ≠ g8 := by omega
        have k7 := k7.below b4 k7.lt
        have hHeld := hHeld.trans (b4.mono hHeld.size)
        refine ⟨hHeld, ?_⟩
        simp only [Act.put, List.setIfInBounds_toArray, List.set_cons_zero, List.set_cons_succ]
        refine wpAnyH_one 2 (by kernel_rfl) rfl rfl ?_
        · refine wp_callR Safg.func303 (by kernel_rfl) (by kernel_rfl) (mul512_any _ a b ha hb) rfl rfl ?_
          rintro e w5 ⟨lo, hi, lok, hok, hv, rfl, b4⟩
          have k7 := k7.below b4 k7.lt
          have k8 := k8.below b4 k8.lt
          refine ⟨_, rfl, ?_⟩
          have hHeld := hHeld.trans (b4.mono hHeld.size)
          refine ⟨hHeld, ?_⟩
          simp only [Act.put, List.setIfInBounds_toArray, List.set_cons_zero, List.set_cons_succ]
          refine wpAnyH_one 4 (by kernel_rfl) rfl rfl ?_
          · refine wp_callR Safg.func334 (by kernel_rfl) (by kernel_rfl) (rem512_any _ lo hi m lok hok hm) rfl rfl ?_
            rintro e w5 ⟨r, i, j, k, rok, hr, rfl, b4⟩
            have k7 := k7.below b4 k7.lt
            have k8 := k8.below b4 k8.lt
            refine ⟨_, rfl, ?_⟩
            have hHeld := hHeld.trans (b4.mono hHeld.size)
            refine ⟨hHeld, ?_⟩
            simp only [Act.put, List.setIfInBounds_toArray, List.set_cons_zero, List.set_cons_succ]
            refine wpAnyH_take' (i := 5) (d := 9) (v := .tuple #[r.v, .agg (pth i j k).toArray]) rfl rfl (by kernel_rfl) (by kernel_rfl) (by kernel_rfl) (fun _ _ _ h => h) (Or.inl ⟨by rfl, fun w hw => by first | (go_simp; done) | (go_simp; cases p <;> cases n <;> rfl)⟩) hHeld ?_
            simp only [Act.put, List.setIfInBounds_toArray, List.set_cons_zero, List.set_cons_succ]
            refine wpAnyH_take' (i := 6) (d := 15) (v := r.v) rfl rfl (by kernel_rfl) (by kernel_rfl) (by kernel_rfl) (fun _ _ _ h => h) (Or.inl ⟨by rfl, fun w hw => by first | (go_simp; done) | (go_simp; cases p <;> cases n <;> rfl)⟩) hHeld ?_
            simp only [Act.put, List.setIfInBounds_toArray, List.set_cons_zero, List.set_cons_succ]
            refine wpAnyH_take' (i := 7) (d := 16) (v := .agg (pth i j k).toArray) rfl rfl (by kernel_rfl) (by kernel_rfl) (by kernel_rfl) (fun _ _ _ h => h) (Or.inl ⟨by rfl, fun w hw => by first | (go_simp; done) | (go_simp; cases p <;> cases n <;> rfl)⟩) hHeld ?_
            simp only [Act.put, List.setIfInBounds_toArray, List.set_cons_zero, List.set_cons_succ]
            refine wpAnyH_one 10 (by kernel_rfl) rfl rfl ?_
            refine wp_storeR 65 _ _ rfl g7 rfl _ r.cells rfl k7 rfl Safg.size65 (Wd4.one _) ?_
            intro w5 k7 o7
            have k8 := o7.blk k8 (by omega)
            have hHeld := hHeld.trans (o7.below h7)
            refine ⟨hHeld, ?_⟩
            simp only [Act.put, List.setIfInBounds_toArray, List.set_cons_zero, List.set_cons_succ]
            refine wpAnyH_one 11 (by kernel_rfl) rfl rfl ?_
            refine wp_storeR 351 _ _ rfl g8 rfl _ (pth i j k) rfl k8 rfl Safg.size351 (pth_one _ _ _) ?_
            intro w6 k8 o8
            have k7 := o8.blk k7 (by omega)
            have hHeld := hHeld.trans (o8.below h8)
            refine ⟨hHeld, ?_⟩
            simp only [Act.put, List.setIfInBounds_toArray, List.set_cons_zero, List.set_cons_succ]
            refine wpAnyH_done (by kernel_rfl) ?_ _
            go_wp2_with fail
            go_meet
            exact ⟨g7, r, rfl, h7, k7, rok, by rw [hr, hv]; rfl, hHeld⟩
    · refine wp_allocR 351 rfl _ Safg.zero351 ?_
      intro w5 g8 hg8 k8 b4
      have h8 : w4.heap.size ≤ g8 := Nat.le_trans hHeld.size hg8
      have hHeld := hHeld.trans (b4.mono hHeld.size)
      refine ⟨hHeld, ?_⟩
      simp only [Act.put, List.setIfInBounds_toArray, List.set_cons_zero, List.set_cons_succ]
      refine wpAnyH_two 2 8 (by kernel_rfl) rfl rfl rfl rfl ?_ ?_
      · refine wp_callR Safg.func303 (by kernel_rfl) (by kernel_rfl) (mul512_any _ a b ha hb) rfl rfl ?_
        rintro e w5 ⟨lo, hi, lok, hok, hv, rfl, b4⟩
        have k8 := k8.below b4 k8.lt
        refine ⟨_, rfl, ?_⟩
        have hHeld := hHeld.trans (b4.mono hHeld.size)
        refine ⟨hHeld, ?_⟩
        simp only [Act.put, List.setIfInBounds_toArray, List.set_cons_zero, List.set_cons_succ]
        refine wpAnyH_two 4 8 (by kernel_rfl) rfl rfl rfl rfl ?_ ?_
        · refine wp_callR Safg.func334 (by kernel_rfl) (by kernel_rfl) (rem512_any _ lo hi m lok hok hm) rfl rfl ?_
          rintro e w5 ⟨r, i, j, k, rok, hr, rfl, b4⟩
          have k8 := k8.below b4 k8.lt
          refine ⟨_, rfl, ?_⟩
          have hHeld := hHeld.trans (b4.mono hHeld.size)
          refine ⟨hHeld, ?_⟩
          simp only [Act.put, List.setIfInBounds_toArray, List.set_cons_zero, List.set_cons_succ]
          refine wpAnyH_take' (i := 5) (d := 9) (v := .tuple #[r.v, .agg (pth i j k).toArray]) rfl rfl (by kernel_rfl) (by kernel_rfl) (by kernel_rfl) (fun _ _ _ h => h) (Or.inl ⟨by rfl, fun w hw => by first | (go_simp; done) | (go_simp; cases p <;> cases n <;> rfl)⟩) hHeld ?_
          simp only [Act.put, List.setIfInBounds_toArray, List.set_cons_zero, List.set_cons_succ]
          refine wpAnyH_take' (i := 6) (d := 15) (v := r.v) rfl rfl (by kernel_rfl) (by kernel_rfl) (by kernel_rfl) (fun _ _ _ h => h) (Or.inl ⟨by rfl, fun w hw => by first | (go_simp; done) | (go_simp; cases p <;> cases n <;> rfl)⟩) hHeld ?_
          simp only [Act.put, List.setIfInBounds_toArray, List.set_cons_zero, List.set_cons_succ]
          refine wpAnyH_take' (i := 7) (d := 16) (v := .agg (pth i j k).toArray) rfl rfl (by kernel_rfl) (by kernel_rfl) (by kernel_rfl) (fun _ _ _ h => h) (Or.inl ⟨by rfl, fun w hw => by first | (go_simp; done) | (go_simp; cases p <;> cases n <;> rfl)⟩) hHeld ?_
          simp only [Act.put, List.setIfInBounds_toArray, List.set_cons_zero, List.set_cons_succ]
          refine wpAnyH_one 8 (by kernel_rfl) rfl rfl ?_
          · refine wp_allocR 65 rfl _ Safg.zero65 ?_
            intro w5 g7 hg7 k7 b4
            have h7 : w4.heap.size ≤ g7 := Nat.le_trans hHeld.size hg7
            have l8 := k8.lt
            have n78 : g7 ≠ g8 := by omega
            have k8 := k8.below b4 k8.lt
            have hHeld := hHeld.trans (b4.mono hHeld.size)
            refine ⟨hHeld, ?_⟩
            simp only [Act.put, List.setIfInBounds_toArray, List.set_cons_zero, List.set_cons_succ]
            refine wpAnyH_one 10 (by kernel_rfl) rfl rfl ?_
            refine wp_storeR 65 _ _ rfl g7 rfl _ r.cells rfl k7 rfl Safg.size65 (Wd4.one _) ?_
            intro w5 k7 o7
            have k8 := o7.blk k8 (by omega)
            have hHeld := hHeld.trans (o7.below h7)
            refine ⟨hHeld, ?_⟩
            simp only [Act.put, List.setIfInBounds_toArray, List.set_cons_zero, List.set_cons_succ]
            refine wpAnyH_one 11 (by kernel_rfl) rfl rfl ?_
            refine wp_storeR 351 _ _ rfl g8 rfl _ (pth i j k) rfl k8 rfl Safg.size351 (pth_one _ _ _) ?_
            intro w6 k8 o8
            have k7 := o8.blk k7 (by omega)
            have hHeld := hHeld.trans (o8.below h8)
            refine ⟨hHeld, ?_⟩
            simp only [Act.put, List.setIfInBounds_toArray, List.set_cons_zero, List.set_cons_succ]
            refine wpAnyH_done (by kernel_rfl) ?_ _
            go_wp2_with fail
            go_meet
            exact ⟨g7, r, rfl, h7, k7, rok, by rw [hr, hv]; rfl, hHeld⟩
        · refine wp_allocR 65 rfl _ Safg.zero65 ?_
          intro w5 g7 hg7 k7 b4
          have h7 : w4.heap.size ≤ g7 := Nat.le_trans hHeld.size hg7
          have l8 := k8.lt
          have n78 : g7 ≠ g8 := by omega
          have k8 := k8.below b4 k8.lt
          have hHeld := hHeld.trans (b4.mono hHeld.size)
          refine ⟨hHeld, ?_⟩
          simp only [Act.put, List.setIfInBounds_toArray, List.set_cons_zero, List.set_cons_succ]
          refine wpAnyH_one 4 (by kernel_rfl) rfl rfl ?_
          · refine wp_callR Safg.func334 (by kernel_rfl) (by kernel_rfl) (rem512_any _ lo hi m lok hok hm) rfl rfl ?_
            rintro e w5 ⟨r, i, j, k, rok, hr, rfl, b4⟩
            have k7 := k7.below b4 k7.lt
            have k8 := k8.below b4 k8.lt
            refine ⟨_, rfl, ?_⟩
            have hHeld := hHeld.trans (b4.mono hHeld.size)
            refine ⟨hHeld, ?_⟩
            simp only [Act.put, List.setIfInBounds_toArray, List.set_cons_zero, List.set_cons_succ]
            refine wpAnyH_take' (i := 5) (d := 9) (v := .tuple #[r.v, .agg (pth i j k).toArray]) rfl rfl (by kernel_rfl) (by kernel_rfl) (by kernel_rfl) (fun _ _ _ h => h) (Or.inl ⟨by rfl, fun w hw => by first | (go_simp; done) | (go_simp; cases p <;> cases n <;> rfl)⟩) hHeld ?_
            simp only [Act.put, List.setIfInBounds_toArray, List.set_cons_zero, List.set_cons_succ]
            refine wpAnyH_take' (i := 6) (d := 15) (v := r.v) rfl rfl (by kernel_rfl) (by kernel_rfl) (by kernel_rfl) (fun _ _ _ h => h) (Or.inl ⟨by rfl, fun w hw => by first | (go_simp; done) | (go_simp; cases p <;> cases n <;> rfl)⟩) hHeld ?_
            simp only [Act.put, List.setIfInBounds_toArray, List.set_cons_zero, List.set_cons_succ]
            refine wpAnyH_take' (i := 7) (d := 16) (v := .agg (pth i j k).toArray) rfl rfl (by kernel_rfl) (by kernel_rfl) (by kernel_rfl) (fun _ _ _ h => h) (Or.inl ⟨by rfl, fun w hw => by first | (go_simp; done) | (go_simp; cases p <;> cases n <;> rfl)⟩) hHeld ?_
            simp only [Act.put, List.setIfInBounds_toArray, List.set_cons_zero, List.set_cons_succ]
            refine wpAnyH_one 10 (by kernel_rfl) rfl rfl ?_
            refine wp_storeR 65 _ _ rfl g7 rfl _ r.cells rfl k7 rfl Safg.size65 (Wd4.one _) ?_
            intro w5 k7 o7
            have k8 := o7.blk k8 (by omega)
            have hHeld := hHeld.trans (o7.below h7)
            refine ⟨hHeld, ?_⟩
            simp only [Act.put, List.setIfInBounds_toArray, List.set_cons_zero, List.set_cons_succ]
            refine wpAnyH_one 11 (by kernel_rfl) rfl rfl ?_
            refine wp_storeR 351 _ _ rfl g8 rfl _ (pth i j k) rfl k8 rfl Safg.size351 (pth_one _ _ _) ?_
            intro w6 k8 o8
            have k7 := o8.blk k7 (by omega)
            have hHeld := hHeld.trans (o8.below h8)
            refine ⟨hHeld, ?_⟩
            simp only [Act.put, List.setIfInBounds_toArray, List.set_cons_zero, List.set_cons_succ]
            refine wpAnyH_done (by kernel_rfl) ?_ _
            go_wp2_with fail
            go_meet
            exact ⟨g7, r, rfl, h7, k7, rok, by rw [hr, hv]; rfl, hHeld⟩
      · refine wp_allocR 65 rfl _ Safg.zero65 ?_
        intro w5 g7 hg7 k7 b4
        have h7 : w4.heap.size ≤ g7 := Nat.le_trans hHeld.size hg7
        have l8 := k8.lt
        have n78 : g7 ≠ g8 := by omega
        have k8 := k8.below b4 k8.lt
        have hHeld := hHeld.trans (b4.mono hHeld.size)
        refine ⟨hHeld, ?_⟩
        simp only [Act.put, List.setIfInBounds_toArray, List.set_cons_zero, List.set_cons_succ]
        refine wpAnyH_one 2 (by kernel_rfl) rfl rfl ?_
        · refine wp_callR Safg.func303 (by kernel_rfl) (by kernel_rfl) (mul512_any _ a b ha hb) rfl rfl ?_
          rintro e w5 ⟨lo, hi, lok, hok, hv, rfl, b4⟩
          have k7 := k7.below b4 k7.lt
          have k8 := k8.below b4 k8.lt
          refine ⟨_, rfl, ?_⟩
          have hHeld := hHeld.trans (b4.mono hHeld.size)
          refine ⟨hHeld, ?_⟩
          simp only [Act.put, List.setIfInBounds_toArray, List.set_cons_zero, List.set_cons_succ]
          refine wpAnyH_one 4 (by kernel_rfl) rfl rfl ?_
          · refine wp_callR Safg.func334 (by kernel_rfl) (by kernel_rfl) (rem512_any _ lo hi m lok hok hm) rfl rfl ?_
            rintro e w5 ⟨r, i, j, k, rok, hr, rfl, b4⟩
            have k7 := k7.below b4 k7.lt
            have k8 := k8.below b4 k8.lt
            refine ⟨_, rfl, ?_⟩
            have hHeld := hHeld.trans (b4.mono hHeld.size)
            refine ⟨hHeld, ?_⟩
            simp only [Act.put, List.setIfInBounds_toArray, List.set_cons_zero, List.set_cons_succ]
            refine wpAnyH_take' (i := 5) (d := 9) (v := .tuple #[r.v, .agg (pth i j k).toArray]) rfl rfl (by kernel_rfl) (by kernel_rfl) (by kernel_rfl) (fun _ _ _ h => h) (Or.inl ⟨by rfl, fun w hw => by first | (go_simp; done) | (go_simp; cases p <;> cases n <;> rfl)⟩) hHeld ?_
            simp only [Act.put, List.setIfInBounds_toArray, List.set_cons_zero, List.set_cons_succ]
            refine wpAnyH_take' (i := 6) (d := 15) (v := r.v) rfl rfl (by kernel_rfl) (by kernel_rfl) (by kernel_rfl) (fun _ _ _ h => h) (Or.inl ⟨by rfl, fun w hw => by first | (go_simp; done) | (go_simp; cases p <;> cases n <;> rfl)⟩) hHeld ?_
            simp only [Act.put, List.setIfInBounds_toArray, List.set_cons_zero, List.set_cons_succ]
            refine wpAnyH_take' (i := 7) (d := 16) (v := .agg (pth i j k).toArray) rfl rfl (by kernel_rfl) (by kernel_rfl) (by kernel_rfl) (fun _ _ _ h => h) (Or.inl ⟨by rfl, fun w hw => by first | (go_simp; done) | (go_simp; cases p <;> cases n <;> rfl)⟩) hHeld ?_
            simp only [Act.put, List.setIfInBounds_toArray, List.set_cons_zero, List.set_cons_succ]
            refine wpAnyH_one 10 (by kernel_rfl) rfl rfl ?_
            refine wp_storeR 65 _ _ rfl g7 rfl _ r.cells rfl k7 rfl Safg.size65 (Wd4.one _) ?_
            intro w5 k7 o7
            have k8 := o7.blk k8 (by omega)
            have hHeld := hHeld.trans (o7.below h7)
            refine ⟨hHeld, ?_⟩
            simp only [Act.put, List.setIfInBounds_toArray, List.set_cons_zero, List.set_cons_succ]
            refine wpAnyH_one 11 (by kernel_rfl) rfl rfl ?_
            refine wp_storeR 351 _ _ rfl g8 rfl _ (pth i j k) rfl k8 rfl Safg.size351 (pth_one _ _ _) ?_
            intro w6 k8 o8
            have k7 := o8.blk k7 (by omega)
            have hHeld := hHeld.trans (o8.below h8)
            refine ⟨hHeld, ?_⟩
            simp only [Act.put, List.setIfInBounds_toArray, List.set_cons_zero, List.set_cons_succ]
            refine wpAnyH_done (by kernel_rfl) ?_ _
            go_wp2_with fail
            go_meet
            exact ⟨g7, r, rfl, h7, k7, rok, by rw [hr, hv]; rfl, hHeld⟩
  case rest =>
    obtain ⟨g7, r, rfl, h7, k7, rok, vr, bx⟩ := hcut
    have VR : Hid (r.val = modW (a.val * b.val) m.val) := vr
    clear vr
    have r6 : Blk wc g6 _ := k6.below bx l6
    have sx := bx.size
    go_wp2_with (first | (refine wpList_load_mid rfl 65 (.tmp 7) rfl g7 0 rfl _ _ k7.cell Safg.under65 rfl Safg.size65 ?_) | (refine wpList_store_agg rfl 65 _ _ rfl g6 rfl _ r.cells rfl r6 rfl Safg.size65 (Wd4.one _) ?_; intro w15 p6 o15))
    refine bodyPost_ret (results_cell1 Safg.results215 _ w15 g6 _ _ rfl p6 Safg.under65 rfl Safg.size65) rfl ⟨r, rok, VR.out, rfl, b04.trans ((bx.mono b04.size).trans (o15.below (by omega)))⟩
end Go.Proofs.YgcsafGreat
