/-
  'u256.Rem512' (334), 'u256.Div' (208), 'u256.Mod' (210).
-/
import Derived.Test.YgcsafGreatDivideAny
namespace Go.Proofs.YgcsafGreat
open Go.RowKit
set_option linter.unusedVariables false
set_option linter.unusedSimpArgs false

def modW (a b : Nat) : Nat := if b = 0 then 0 else a % b
set_option maxRecDepth 100000 in
set_option maxHeartbeats 4000000 in
theorem rem512_any (w : World) (lo hi m : Wd4) (hlo : lo.Ok) (hhi : hi.Ok) (hm : m.Ok) :
    Calls Safg.prog 334 #[.agg (lo.cells ++ hi.cells).toArray, m.v] w (RemPost w (lo.val + b256 * hi.val) m.val) := by
  go_enter Safg.func334, Safg.ntmps334
  go_upto_region 1 with (first | (refine wpList_box_agg rfl 67 (.tmp 0) rfl (lo.cells ++ hi.cells) rfl ?_; intro w1 g2 hg2 k2 c2) | (refine wpList_box_agg rfl 65 (.tmp 1) rfl m.cells rfl ?_; intro w2 g3 hg3 k3 c3) | (refine wpList_alloc_agg rfl 65 rfl _ Safg.zero65 ?_; intro w3 g4 hg4 k4 c4) | (refine wpList_alloc_agg rfl 351 rfl _ Safg.zero351 ?_; intro w4 g5 hg5 k5 c5))
  have s1 := c2.size; have s2 := c3.size; have s3 := c4.size; have s4 := c5.size
  have l2 := k2.lt; have l3 := k3.lt; have l4 := k4.lt; have l5 := k5.lt
  have b04 : Below w.heap.size w w4 := c2.trans ((c3.mono s1).trans ((c4.mono (by omega)).trans (c5.mono (by omega))))
  have m2 : Blk w4 g2 (lo.cells ++ hi.cells) := ((k2.below c3 (by omega)).below c4 (by omega)).below c5 (by omega)
  have m3 : Blk w4 g3 m.cells := (k3.below c4 (by omega)).below c5 (by omega)
  have m4 := k4.below c5 (by omega)
  have own : OwnU w4 g2 (lo.l ++ hi.l) := Blk.ownU m2
  clear c2 c3 c4 c5 k2 k3 k4
  have HD := divide_any w4 g2 _ m hm own rfl (lim_wide hlo hhi)
  go_wp2_with (first | (refine wpList_load_mid rfl 65 (.tmp 3) rfl g3 0 rfl _ _ m3.cell Safg.under65 rfl Safg.size65 ?_) | (go_at_call 378; refine HD.mono ?_; rintro e w8 ⟨q, r, i, j, k, rfl, hq8, lq, rok, own8, t8, hz, hnz⟩; have n4 : Blk w8 g4 _ := m4.turn t8 (by simp; omega); have n5 : Blk w8 g5 _ := k5.turn t8 (by simp; omega)) | (refine wpList_store_agg rfl 65 _ _ rfl g4 rfl _ r.cells rfl n4 rfl Safg.size65 (Wd4.one _) ?_; intro w9 p4 o9; have n5 := o9.blk n5 (by omega)) | (refine wpList_store_agg rfl 351 _ _ rfl g5 rfl _ (pth i j k) rfl n5 rfl Safg.size351 (pth_one _ _ _) ?_; intro w10 p5 o10))
  have p4' : Blk w10 g4 r.cells := o10.blk p4 (by omega)
  have s8 := t8.size
  refine bodyPost_ret (results_cell2 Safg.results334 _ _ g4 g5 r.cells (pth i j k) _ _ rfl rfl p4' p5 Safg.under65 rfl Safg.size65 Safg.underlying351 rfl Safg.size351) rfl ?_
  have bb : Below w.heap.size w w10 := b04.trans ((t8.nil_below (B := w.heap.size) (by omega) (by omega)).trans ((o9.below (by omega)).trans (o10.below (by omega))))
  rw [wv_wide] at hnz
  refine ⟨r, i, j, k, rok, ?_, rfl, bb⟩
  rcases Nat.eq_zero_or_pos m.val with h0 | h0
  · rw [if_pos h0]; exact (hz h0).2
  · obtain ⟨h1, h2⟩ := hnz h0
    rw [if_neg (by omega)]; exact (quot_of h0 h2 h1).2.symm

set_option maxRecDepth 100000 in
set_option maxHeartbeats 4000000 in
theorem uDiv_any (w : World) (a b : Wd4) (ha : a.Ok) (hb : b.Ok) :
    Calls Safg.prog 208 #[a.v, b.v] w (WdRes w (a.val / b.val)) := by
  go_enter Safg.func208, Safg.ntmps208
  go_upto_region 1 with (first | (refine wpList_box_agg rfl 65 (.tmp 0) rfl a.cells rfl ?_; intro w1 g2 hg2 k2 c2) | (refine wpList_box_agg rfl 65 (.tmp 1) rfl b.cells rfl ?_; intro w2 g3 hg3 k3 c3) | (refine wpList_alloc_agg rfl 65 rfl _ Safg.zero65 ?_; intro w3 g4 hg4 k4 c4))
  have s1 := c2.size; have s2 := c3.size; have s3 := c4.size
  have l2 := k2.lt; have l3 := k3.lt; have l4 := k4.lt
  have b03 : Below w.heap.size w w3 := c2.trans ((c3.mono s1).trans (c4.mono (by omega)))
  have m2 : Blk w3 g2 a.cells := (k2.below c3 (by omega)).below c4 (by omega)
  have m3 : Blk w3 g3 b.cells := k3.below c4 (by omega)
  clear c2 c3 c4 k2 k3
  have HD := divRem_any w3 a b ha hb
  go_upto_region 2 with (first | (refine wpList_load_mid rfl 65 (.tmp 2) rfl g2 0 rfl _ _ m2.cell Safg.under65 rfl Safg.size65 ?_) | (refine wpList_load_mid rfl 65 (.tmp 3) rfl g3 0 rfl _ _ m3.cell Safg.under65 rfl Safg.size65 ?_) | (go_at_call 329; refine HD.mono ?_; rintro e w4 ⟨q, r, i, j, k, qok, rok, hq, hr, rfl, b4⟩) | (refine wpList_alloc_agg rfl 65 rfl _ Safg.zero65 ?_; first | ((fail_if_success (revert hg5)); intro w5 g5 hg5 k5 c5) | intro w6 g6 hg6 k6 c6) | (refine wpList_alloc_agg rfl 351 rfl _ Safg.zero351 ?_; intro w7 g7 hg7 k7 c7; have l5 := k5.lt; have l6 := k6.lt; have l7 := k7.lt; have n5 := (k5.below c6 (by omega)).below c7 (by omega); have n6 := k6.below c7 (by omega)) | (refine wpList_store_agg rfl 65 _ _ rfl g5 rfl _ q.cells rfl n5 rfl Safg.size65 (Wd4.one _) ?_; intro w8 p5 o8; have n6 := o8.blk n6 (by omega); have n7 := o8.blk k7 (by omega)) | (refine wpList_store_agg rfl 65 _ _ rfl g6 rfl _ r.cells rfl n6 rfl Safg.size65 (Wd4.one _) ?_; intro w9 p6 o9; have n7 := o9.blk n7 (by omega)) | (refine wpList_store_agg rfl 351 _ _ rfl g7 rfl _ (pth i j k) rfl n7 rfl Safg.size351 (pth_one _ _ _) ?_; intro w10 p7 o10))
  have s4 := b4.size; have s5 := c5.size; have s6 := c6.size; have s7 := c7.size; have s8 := o8.size; have s9 := o9.size; have s10 := o10.size
  have r5 : Blk w10 g5 q.cells := o10.blk (o9.blk p5 (by omega)) (by omega)
  have bb : Below w.heap.size w w10 := b03.trans ((b4.mono (by omega)).trans ((c5.mono (by omega)).trans ((c6.mono (by omega)).trans ((c7.mono (by omega)).trans ((o8.below (by omega)).trans ((o9.below (by omega)).trans (o10.below (by omega))))))))
  have q4 : Blk w10 g4 _ := o10.blk (o9.blk (o8.blk ((((k4.below b4 (by omega)).below c5 (by omega)).below c6 (by omega)).below c7 (by omega)) (by omega)) (by omega)) (by omega)
  go_wp2_with (first | (refine wpList_load_mid rfl 65 (.tmp 5) rfl g5 0 rfl _ _ r5.cell Safg.under65 rfl Safg.size65 ?_) | (refine wpList_store_agg rfl 65 _ _ rfl g4 rfl _ q.cells rfl q4 rfl Safg.size65 (Wd4.one _) ?_; intro w11 p4 o11))
  refine bodyPost_ret (results_cell1 Safg.results208 _ w11 g4 _ _ rfl p4 Safg.under65 rfl Safg.size65) rfl ⟨q, qok, hq, rfl, bb.trans (o11.below (by omega))⟩

set_option maxRecDepth 100000 in
set_option maxHeartbeats 4000000 in
theorem uMod_any (w : World) (a b : Wd4) (ha : a.Ok) (hb : b.Ok) :
    Calls Safg.prog 210 #[a.v, b.v] w (WdRes w (modW a.val b.val)) := by
  go_enter Safg.func210, Safg.ntmps210
  go_upto_region 1 with (first | (refine wpList_box_agg rfl 65 (.tmp 0) rfl a.cells rfl ?_; intro w1 g2 hg2 k2 c2) | (refine wpList_box_agg rfl 65 (.tmp 1) rfl b.cells rfl ?_; intro w2 g3 hg3 k3 c3) | (refine wpList_alloc_agg rfl 65 rfl _ Safg.zero65 ?_; intro w3 g4 hg4 k4 c4))
  have s1 := c2.size; have s2 := c3.size; have s3 := c4.size
  have l2 := k2.lt; have l3 := k3.lt; have l4 := k4.lt
  have b03 : Below w.heap.size w w3 := c2.trans ((c3.mono s1).trans (c4.mono (by omega)))
  have m2 : Blk w3 g2 a.cells := (k2.below c3 (by omega)).below c4 (by omega)
  have m3 : Blk w3 g3 b.cells := k3.below c4 (by omega)
  clear c2 c3 c4 k2 k3
  have HD := divRem_any w3 a b ha hb
  go_upto_region 2 with (first | (refine wpList_load_mid rfl 65 (.tmp 2) rfl g2 0 rfl _ _ m2.cell Safg.under65 rfl Safg.size65 ?_) | (refine wpList_load_mid rfl 65 (.tmp 3) rfl g3 0 rfl _ _ m3.cell Safg.under65 rfl Safg.size65 ?_) | (go_at_call 329; refine HD.mono ?_; rintro e w4 ⟨q, r, i, j, k, qok, rok, hq, hr, rfl, b4⟩) | (refine wpList_alloc_agg rfl 65 rfl _ Safg.zero65 ?_; first | ((fail_if_success (revert hg5)); intro w5 g5 hg5 k5 c5) | intro w6 g6 hg6 k6 c6) | (refine wpList_alloc_agg rfl 351 rfl _ Safg.zero351 ?_; intro w7 g7 hg7 k7 c7; have l5 := k5.lt; have l6 := k6.lt; have l7 := k7.lt; have n5 := (k5.below c6 (by omega)).below c7 (by omega); have n6 := k6.below c7 (by omega)) | (refine wpList_store_agg rfl 65 _ _ rfl g5 rfl _ q.cells rfl n5 rfl Safg.size65 (Wd4.one _) ?_; intro w8 p5 o8; have n6 := o8.blk n6 (by omega); have n7 := o8.blk k7 (by omega)) | (refine wpList_store_agg rfl 65 _ _ rfl g6 rfl _ r.cells rfl n6 rfl Safg.size65 (Wd4.one _) ?_; intro w9 p6 o9; have n7 := o9.blk n7 (by omega)) | (refine wpList_store_agg rfl 351 _ _ rfl g7 rfl _ (pth i j k) rfl n7 rfl Safg.size351 (pth_one _ _ _) ?_; intro w10 p7 o10))
  have s4 := b4.size; have s5 := c5.size; have s6 := c6.size; have s7 := c7.size; have s8 := o8.size; have s9 := o9.size; have s10 := o10.size
  have r6 : Blk w10 g6 r.cells := o10.blk p6 (by omega)
  have bb : Below w.heap.size w w10 := b03.trans ((b4.mono (by omega)).trans ((c5.mono (by omega)).trans ((c6.mono (by omega)).trans ((c7.mono (by omega)).trans ((o8.below (by omega)).trans ((o9.below (by omega)).trans (o10.below (by omega))))))))
  have q4 : Blk w10 g4 _ := o10.blk (o9.blk (o8.blk ((((k4.below b4 (by omega)).below c5 (by omega)).below c6 (by omega)).below c7 (by omega)) (by omega)) (by omega)) (by omega)
  go_wp2_with (first | (refine wpList_load_mid rfl 65 (.tmp 6) rfl g6 0 rfl _ _ r6.cell Safg.under65 rfl Safg.size65 ?_) | (refine wpList_store_agg rfl 65 _ _ rfl g4 rfl _ r.cells rfl q4 rfl Safg.size65 (Wd4.one _) ?_; intro w11 p4 o11))
  refine bodyPost_ret (results_cell1 Safg.results210 _ w11 g4 _ _ rfl p4 Safg.under65 rfl Safg.size65) rfl ⟨r, rok, hr, rfl, bb.trans (o11.below (by omega))⟩
end Go.Proofs.YgcsafGreat
