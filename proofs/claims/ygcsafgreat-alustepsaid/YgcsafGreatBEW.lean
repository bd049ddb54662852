/-
  'u256.Word.BE32' (30).
-/
import Derived.Test.YgcsafGreatPut
namespace Go.Proofs.YgcsafGreat
open Go.RowKit
set_option linter.unusedVariables false
set_option linter.unusedSimpArgs false

theorem Own.blk {w : World} {g : Nat} {L : List Nat} (h : Own w g L) : Blk w g (cellsL L) := ⟨h.lt, h.range, h.free⟩
theorem Only.own' {g g' : Nat} {w w' : World} {L : List Nat} (h : Only g w w') (ho : Own w g' L) (hne : g' ≠ g) : Own w' g' L := h.own ho hne
/-- The 32 bytes of a word. -/
def beL (a : Wd4) : List Nat := putL (putL (putL (putL (List.replicate 32 0) 0 a.x3) 8 a.x2) 16 a.x1) 24 a.x0
theorem beL_length (a : Wd4) : (beL a).length = 32 := by simp [beL, putL_length]
theorem beL_dig (a : Wd4) : D.Dig (beL a) := putL_dig (putL_dig (putL_dig (putL_dig (D.Dig.replicate _) _ _) _ _) _ _) _ _

set_option maxRecDepth 100000 in
set_option maxHeartbeats 4000000 in
theorem be32W_any (w : World) (a : Wd4) (ha : a.Ok) :
    Calls Safg.prog 30 #[a.v] w fun e w' => e = .returned (arrV (beL a)) ∧ Below w.heap.size w w' := by
  have h0 := ha.h0; have h1 := ha.h1; have h2 := ha.h2; have h3 := ha.h3
  go_enter Safg.func30, Safg.ntmps30
  go_upto_region 2 with (first | (refine wpList_box_agg rfl 65 (.tmp 0) rfl a.cells rfl ?_; intro w1 g1 hg1 k1 c1) | (refine wpList_alloc_arr rfl 22 rfl 32 Safg.zero22 ?_; first | ((fail_if_success (revert hg2)); intro w2 g2 hg2 o2 b2; have l1 := k1.lt; have k1 := k1.below b2 k1.lt) | (intro w3 g3 hg3 o3 b3; have l2 := o2.lt; have k1 := k1.below b3 k1.lt; have o2 := o2.below b3 o2.lt)))
  have s1 := c1.size; have s2 := b2.size; have s3 := b3.size
  have bb : Below w.heap.size w w3 := c1.trans ((b2.mono s1).trans (b3.mono (by omega)))
  have n13 : g1 ≠ g3 := by omega
  have n23 : g2 ≠ g3 := by omega
  have hh3 : w.heap.size ≤ g3 := by omega
  have hh2 : w.heap.size ≤ g2 := by omega
  clear c1 b2 b3
  have K1 : Blk w3 g1 a.cells := k1
  have O2 := o2
  have O3 : Own w3 g3 (List.replicate 32 0) := o3
  clear k1 o2 o3
  try simp only [Act.put, List.setIfInBounds_toArray, List.set_cons_zero, List.set_cons_succ]
  refine wp_region_held_drew (S := fun w' => Blk w' g1 a.cells) (by kernel_rfl) ((Same.drew w3).blk K1) (fun hHeld => ?_)
  refine wpAnyH_take' (i := 0) (d := 4) (v := .slice (some ⟨g3, 0, none⟩) 32 32) rfl rfl (by kernel_rfl) (by kernel_rfl) (by kernel_rfl) (fun _ _ _ h => h) (Or.inl ⟨by rfl, fun w hw => by first | (go_simp; done) | (go_simp; cases p <;> cases n <;> rfl)⟩) hHeld ?_
  simp only [Act.put, List.setIfInBounds_toArray, List.set_cons_zero, List.set_cons_succ]
  refine wpAnyH_take' (i := 1) (d := 5) (v := .pointer (some ⟨g1, 3, none⟩)) rfl rfl (by kernel_rfl) (by kernel_rfl) (by kernel_rfl) (fun _ _ _ h => h) (Or.inl ⟨by rfl, fun w hw => by first | (go_simp; done) | (go_simp; cases p <;> cases n <;> rfl)⟩) hHeld ?_
  simp only [Act.put, List.setIfInBounds_toArray, List.set_cons_zero, List.set_cons_succ]
  refine wpAnyH_take' (i := 2) (d := 6) (v := .int .u64 (a.x3 : Int)) rfl rfl (by kernel_rfl) (by kernel_rfl) (by kernel_rfl) (fun _ _ _ h => h) (Or.inl ⟨by rfl, fun w hw => by have hc := hw.get (j := 3) (v := .int .u64 (a.x3 : Int)) rfl; go_simp⟩) hHeld ?_
  simp only [Act.put, List.setIfInBounds_toArray, List.set_cons_zero, List.set_cons_succ]
  refine wpAnyH_one 3 (by kernel_rfl) rfl rfl ?_
  refine wp_callR Safg.func95 (by kernel_rfl) (by kernel_rfl) (putBE64_any _ g3 32 0 a.x3 (List.replicate 32 0) ((Same.drew w3).own O3) (by simp [putL_length]) (by omega) (by omega) h3) rfl rfl ?_
  rintro e w4 ⟨rfl, O3, n4⟩
  refine ⟨_, rfl, ?_⟩
  have K1 := n4.blk ((Same.drew w3).blk K1) n13
  have O2 := n4.own ((Same.drew w3).own O2) n23
  have bb := bb.trans (((Turn.drew_below w3).mono bb.size).trans (n4.below hh3))
  refine ⟨K1, ?_⟩
  simp only [Act.put, List.setIfInBounds_toArray, List.set_cons_zero, List.set_cons_succ]
  refine wpAnyH_done (by kernel_rfl) ?_ _
  clear n4
  go_upto_region 3 with fail
  try simp only [Act.put, List.setIfInBounds_toArray, List.set_cons_zero, List.set_cons_succ]
  refine wp_region_held_drew (S := fun w' => Blk w' g1 a.cells) (by kernel_rfl) ((Same.drew w4).blk K1) (fun hHeld => ?_)
  refine wpAnyH_take' (i := 0) (d := 8) (v := .slice (some ⟨g3, 0, none⟩) 32 32) rfl rfl (by kernel_rfl) (by kernel_rfl) (by kernel_rfl) (fun _ _ _ h => h) (Or.inl ⟨by rfl, fun w hw => by first | (go_simp; done) | (go_simp; cases p <;> cases n <;> rfl)⟩) hHeld ?_
  simp only [Act.put, List.setIfInBounds_toArray, List.set_cons_zero, List.set_cons_succ]
  refine wpAnyH_take' (i := 1) (d := 9) (v := .pointer (some ⟨g1, 2, none⟩)) rfl rfl (by kernel_rfl) (by kernel_rfl) (by kernel_rfl) (fun _ _ _ h => h) (Or.inl ⟨by rfl, fun w hw => by first | (go_simp; done) | (go_simp; cases p <;> cases n <;> rfl)⟩) hHeld ?_
  simp only [Act.put, List.setIfInBounds_toArray, List.set_cons_zero, List.set_cons_succ]
  refine wpAnyH_take' (i := 2) (d := 10) (v := .int .u64 (a.x2 : Int)) rfl rfl (by kernel_rfl) (by kernel_rfl) (by kernel_rfl) (fun _ _ _ h => h) (Or.inl ⟨by rfl, fun w hw => by have hc := hw.get (j := 2) (v := .int .u64 (a.x2 : Int)) rfl; go_simp⟩) hHeld ?_
  simp only [Act.put, List.setIfInBounds_toArray, List.set_cons_zero, List.set_cons_succ]
  refine wpAnyH_one 3 (by kernel_rfl) rfl rfl ?_
  refine wp_callR Safg.func95 (by kernel_rfl) (by kernel_rfl) (putBE64_any _ g3 32 8 a.x2 (putL (List.replicate 32 0) 0 a.x3) ((Same.drew w4).own O3) (by simp [putL_length]) (by omega) (by omega) h2) rfl rfl ?_
  rintro e w5 ⟨rfl, O3, n4⟩
  refine ⟨_, rfl, ?_⟩
  have K1 := n4.blk ((Same.drew w4).blk K1) n13
  have O2 := n4.own ((Same.drew w4).own O2) n23
  have bb := bb.trans (((Turn.drew_below w4).mono bb.size).trans (n4.below hh3))
  refine ⟨K1, ?_⟩
  simp only [Act.put, List.setIfInBounds_toArray, List.set_cons_zero, List.set_cons_succ]
  refine wpAnyH_done (by kernel_rfl) ?_ _
  clear n4
  go_upto_region 4 with fail
  try simp only [Act.put, List.setIfInBounds_toArray, List.set_cons_zero, List.set_cons_succ]
  refine wp_region_held_drew (S := fun w' => Blk w' g1 a.cells) (by kernel_rfl) ((Same.drew w5).blk K1) (fun hHeld => ?_)
  refine wpAnyH_take' (i := 0) (d := 12) (v := .slice (some ⟨g3, 0, none⟩) 32 32) rfl rfl (by kernel_rfl) (by kernel_rfl) (by kernel_rfl) (fun _ _ _ h => h) (Or.inl ⟨by rfl, fun w hw => by first | (go_simp; done) | (go_simp; cases p <;> cases n <;> rfl)⟩) hHeld ?_
  simp only [Act.put, List.setIfInBounds_toArray, List.set_cons_zero, List.set_cons_succ]
  refine wpAnyH_take' (i := 1) (d := 13) (v := .pointer (some ⟨g1, 1, none⟩)) rfl rfl (by kernel_rfl) (by kernel_rfl) (by kernel_rfl) (fun _ _ _ h => h) (Or.inl ⟨by rfl, fun w hw => by first | (go_simp; done) | (go_simp; cases p <;> cases n <;> rfl)⟩) hHeld ?_
  simp only [Act.put, List.setIfInBounds_toArray, List.set_cons_zero, List.set_cons_succ]
  refine wpAnyH_take' (i := 2) (d := 14) (v := .int .u64 (a.x1 : Int)) rfl rfl (by kernel_rfl) (by kernel_rfl) (by kernel_rfl) (fun _ _ _ h => h) (Or.inl ⟨by rfl, fun w hw => by have hc := hw.get (j := 1) (v := .int .u64 (a.x1 : Int)) rfl; go_simp⟩) hHeld ?_
  simp only [Act.put, List.setIfInBounds_toArray, List.set_cons_zero, List.set_cons_succ]
  refine wpAnyH_one 3 (by kernel_rfl) rfl rfl ?_
  refine wp_callR Safg.func95 (by kernel_rfl) (by kernel_rfl) (putBE64_any _ g3 32 16 a.x1 (putL (putL (List.replicate 32 0) 0 a.x3) 8 a.x2) ((Same.drew w5).own O3) (by simp [putL_length]) (by omega) (by omega) h1) rfl rfl ?_
  rintro e w6 ⟨rfl, O3, n4⟩
  refine ⟨_, rfl, ?_⟩
  have K1 := n4.blk ((Same.drew w5).blk K1) n13
  have O2 := n4.own ((Same.drew w5).own O2) n23
  have bb := bb.trans (((Turn.drew_below w5).mono bb.size).trans (n4.below hh3))
  refine ⟨K1, ?_⟩
  simp only [Act.put, List.setIfInBounds_toArray, List.set_cons_zero, List.set_cons_succ]
  refine wpAnyH_done (by kernel_rfl) ?_ _
  clear n4
  go_upto_region 5 with fail
  try simp only [Act.put, List.setIfInBounds_toArray, List.set_cons_zero, List.set_cons_succ]
  refine wp_region_held_drew (S := fun w' => Blk w' g1 a.cells) (by kernel_rfl) ((Same.drew w6).blk K1) (fun hHeld => ?_)
  refine wpAnyH_take' (i := 0) (d := 16) (v := .slice (some ⟨g3, 0, none⟩) 32 32) rfl rfl (by kernel_rfl) (by kernel_rfl) (by kernel_rfl) (fun _ _ _ h => h) (Or.inl ⟨by rfl, fun w hw => by first | (go_simp; done) | (go_simp; cases p <;> cases n <;> rfl)⟩) hHeld ?_
  simp only [Act.put, List.setIfInBounds_toArray, List.set_cons_zero, List.set_cons_succ]
  refine wpAnyH_take' (i := 1) (d := 17) (v := .pointer (some ⟨g1, 0, none⟩)) rfl rfl (by kernel_rfl) (by kernel_rfl) (by kernel_rfl) (fun _ _ _ h => h) (Or.inl ⟨by rfl, fun w hw => by first | (go_simp; done) | (go_simp; cases p <;> cases n <;> rfl)⟩) hHeld ?_
  simp only [Act.put, List.setIfInBounds_toArray, List.set_cons_zero, List.set_cons_succ]
  refine wpAnyH_take' (i := 2) (d := 18) (v := .int .u64 (a.x0 : Int)) rfl rfl (by kernel_rfl) (by kernel_rfl) (by kernel_rfl) (fun _ _ _ h => h) (Or.inl ⟨by rfl, fun w hw => by have hc := hw.get (j := 0) (v := .int .u64 (a.x0 : Int)) rfl; go_simp⟩) hHeld ?_
  simp only [Act.put, List.setIfInBounds_toArray, List.set_cons_zero, List.set_cons_succ]
  refine wpAnyH_one 3 (by kernel_rfl) rfl rfl ?_
  refine wp_callR Safg.func95 (by kernel_rfl) (by kernel_rfl) (putBE64_any _ g3 32 24 a.x0 (putL (putL (putL (List.replicate 32 0) 0 a.x3) 8 a.x2) 16 a.x1) ((Same.drew w6).own O3) (by simp [putL_length]) (by omega) (by omega) h0) rfl rfl ?_
  rintro e w7 ⟨rfl, O3, n4⟩
  refine ⟨_, rfl, ?_⟩
  have K1 := n4.blk ((Same.drew w6).blk K1) n13
  have O2 := n4.own ((Same.drew w6).own O2) n23
  have bb := bb.trans (((Turn.drew_below w6).mono bb.size).trans (n4.below hh3))
  refine ⟨K1, ?_⟩
  simp only [Act.put, List.setIfInBounds_toArray, List.set_cons_zero, List.set_cons_succ]
  refine wpAnyH_done (by kernel_rfl) ?_ _
  clear n4
  have O3 : Own w7 g3 (beL a) := O3
  go_wp2_with (first | (refine wpList_load_arr rfl 22 (.tmp 3) rfl g3 rfl (beL a) O3 32 5 Safg.underlying22 (by rw [beL_length]; exact Safg.size22) ?_) | (refine wpList_store_arr rfl 22 _ _ rfl g2 rfl _ (beL a) rfl O2 (by rw [beL_length]; simp) Safg.size22 ?_; intro w8 o8 n8))
  refine bodyPost_ret (results_cell1 Safg.results30 _ w8 g2 (cellsL (beL a)) _ rfl o8.blk Safg.underlying22 rfl (by rw [cellsL_length, beL_length]; exact Safg.size22)) rfl ⟨rfl, bb.trans (n8.below hh2)⟩
end Go.Proofs.YgcsafGreat
