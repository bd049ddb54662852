/-
  'u256': SDiv (209), SMod (211).
-/
import Derived.Test.YgcsafGreatDrawn
namespace Go.Proofs.YgcsafGreat
open Go.RowKit
set_option linter.unusedVariables false
set_option linter.unusedSimpArgs false

set_option maxRecDepth 100000 in
set_option maxHeartbeats 16000000 in
theorem sdiv_any (w : World) (a b : Wd4) (ha : a.Ok) (hb : b.Ok) :
    Calls Safg.prog 209 #[a.v, b.v] w (WdRes w (sgnW (magW a.val / magW b.val) (isNegW a.val != isNegW b.val))) := by
  have HNA := fun w => negative_nat w a ha
  have HNB := fun w => negative_nat w b hb
  have HSA := fun w => signed_any w a ha (isNegW a.val)
  have HSB := fun w => signed_any w b hb (isNegW b.val)
  have eA : sgnW a.val (isNegW a.val) = magW a.val := rfl
  have eB : sgnW b.val (isNegW b.val) = magW b.val := rfl
  rw [eA] at HSA
  rw [eB] at HSB
  have HSQ := fun (w : World) (q : Wd4) (okq : q.Ok) => signed_any w q okq (isNegW a.val != isNegW b.val)
  have HZ : Hid (∀ r q : Wd4, r.val = sgnW q.val (isNegW a.val != isNegW b.val) → q.val = magW a.val / magW b.val → r.val = sgnW (magW a.val / magW b.val) (isNegW a.val != isNegW b.val)) := fun r q h1 h2 => by rw [h1, h2]
  clear eA eB
  generalize sgnW (magW a.val / magW b.val) (isNegW a.val != isNegW b.val) = z at *
  generalize magW a.val = ma at *
  generalize magW b.val = mb at *
  generalize isNegW a.val = p at *
  generalize isNegW b.val = n at *
  go_enter Safg.func209, Safg.ntmps209
  go_upto_region 1 with (first | (refine wpList_box_agg rfl 65 (.tmp 0) rfl a.cells rfl ?_; intro w1 g2 hg2 k2 c2) | (refine wpList_box_agg rfl 65 (.tmp 1) rfl b.cells rfl ?_; intro w2 g3 hg3 k3 c3) | (refine wpList_alloc_agg rfl 65 rfl _ Safg.zero65 ?_; intro w3 g4 hg4 k4 c4))
  have s1 := c2.size; have s2 := c3.size; have s3 := c4.size
  have l2 := k2.lt; have l3 := k3.lt; have l4 := k4.lt
  have b03 : Below w.heap.size w w3 := c2.trans ((c3.mono s1).trans (c4.mono (by omega)))
  have m2 : Blk w3 g2 a.cells := (k2.below c3 (by omega)).below c4 (by omega)
  have m3 : Blk w3 g3 b.cells := k3.below c4 (by omega)
  have l2' := m2.lt; have l3' := m3.lt
  clear c2 c3 c4 k2 k3
  simp only [Act.put, List.setIfInBounds_toArray, List.set_cons_zero, List.set_cons_succ]
  go_cut [5] (fun c wx => ∃ (g5 : Nat) (q : Wd4), c = .pointer (some ⟨g5, 0, none⟩) ∧ w3.heap.size ≤ g5 ∧ Blk wx g5 q.cells ∧ q.Ok ∧ q.val = ma / mb ∧ Below w3.heap.size w3 wx)
  case first =>
    refine wp_region_held_drew (S := fun w' => Below w3.heap.size w3 w') (by kernel_rfl) (Turn.drew_below w3) (fun hHeld => ?_)
    refine wpAnyH_take' (i := 0) (d := 6) (v := .agg a.cells.toArray) rfl rfl (by kernel_rfl) (by kernel_rfl) (by kernel_rfl) (fun _ _ _ h => h) (yieldsIf_load_mid (by rfl) 65 _ rfl g2 0 rfl a.cells _ (fun w hw => (m2.below hw l2').cell) Safg.under65 rfl Safg.size65) hHeld ?_
    simp only [Act.put, List.setIfInBounds_toArray, List.set_cons_zero, List.set_cons_succ]
    refine wpAnyH_take' (i := 1) (d := 7) (v := .agg a.cells.toArray) rfl rfl (by kernel_rfl) (by kernel_rfl) (by kernel_rfl) (fun _ _ _ h => h) (yieldsIf_load_mid (by rfl) 65 _ rfl g2 0 rfl a.cells _ (fun w hw => (m2.below hw l2').cell) Safg.under65 rfl Safg.size65) hHeld ?_
    simp only [Act.put, List.setIfInBounds_toArray, List.set_cons_zero, List.set_cons_succ]
    refine wpAnyH_take' (i := 4) (d := 10) (v := .agg b.cells.toArray) rfl rfl (by kernel_rfl) (by kernel_rfl) (by kernel_rfl) (fun _ _ _ h => h) (yieldsIf_load_mid (by rfl) 65 _ rfl g3 0 rfl b.cells _ (fun w hw => (m3.below hw l3').cell) Safg.under65 rfl Safg.size65) hHeld ?_
    simp only [Act.put, List.setIfInBounds_toArray, List.set_cons_zero, List.set_cons_succ]
    refine wpAnyH_take' (i := 5) (d := 11) (v := .agg b.cells.toArray) rfl rfl (by kernel_rfl) (by kernel_rfl) (by kernel_rfl) (fun _ _ _ h => h) (yieldsIf_load_mid (by rfl) 65 _ rfl g3 0 rfl b.cells _ (fun w hw => (m3.below hw l3').cell) Safg.under65 rfl Safg.size65) hHeld ?_
    simp only [Act.put, List.setIfInBounds_toArray, List.set_cons_zero, List.set_cons_succ]
    refine wpAnyH_two 2 9 (by kernel_rfl) rfl rfl rfl rfl ?_ ?_
    · refine wp_callR Safg.func331 (by kernel_rfl) (by kernel_rfl) (HNA _) rfl rfl ?_
      rintro e w4 ⟨rfl, b4⟩
      refine ⟨_, rfl, ?_⟩
      have hHeld := hHeld.trans (b4.mono hHeld.size)
      refine ⟨hHeld, ?_⟩
      simp only [Act.put, List.setIfInBounds_toArray, List.set_cons_zero, List.set_cons_succ]
      refine wpAnyH_two 3 9 (by kernel_rfl) rfl rfl rfl rfl ?_ ?_
      · refine wp_callR Safg.func330 (by kernel_rfl) (by kernel_rfl) (HSA _) rfl rfl ?_
        rintro e w4 ⟨sa, oka, va, rfl, b4⟩
        refine ⟨_, rfl, ?_⟩
        have hHeld := hHeld.trans (b4.mono hHeld.size)
        refine ⟨hHeld, ?_⟩
        simp only [Act.put, List.setIfInBounds_toArray, List.set_cons_zero, List.set_cons_succ]
        refine wpAnyH_two 6 9 (by kernel_rfl) rfl rfl rfl rfl ?_ ?_
        · refine wp_callR Safg.func331 (by kernel_rfl) (by kernel_rfl) (HNB _) rfl rfl ?_
          rintro e w4 ⟨rfl, b4⟩
          refine ⟨_, rfl, ?_⟩
          have hHeld := hHeld.trans (b4.mono hHeld.size)
          refine ⟨hHeld, ?_⟩
          simp only [Act.put, List.setIfInBounds_toArray, List.set_cons_zero, List.set_cons_succ]
          refine wpAnyH_two 7 9 (by kernel_rfl) rfl rfl rfl rfl ?_ ?_
          · refine wp_callR Safg.func330 (by kernel_rfl) (by kernel_rfl) (HSB _) rfl rfl ?_
            rintro e w4 ⟨sb, okb, vb, rfl, b4⟩
            refine ⟨_, rfl, ?_⟩
            have hHeld := hHeld.trans (b4.mono hHeld.size)
            refine ⟨hHeld, ?_⟩
            simp only [Act.put, List.setIfInBounds_toArray, List.set_cons_zero, List.set_cons_succ]
            refine wpAnyH_two 8 9 (by kernel_rfl) rfl rfl rfl rfl ?_ ?_
            · refine wp_callR Safg.func208 (by kernel_rfl) (by kernel_rfl) (uDiv_any _ sa sb oka okb) rfl rfl ?_
              rintro e w4 ⟨q, okq, vq, rfl, b4⟩
              refine ⟨_, rfl, ?_⟩
              have hHeld := hHeld.trans (b4.mono hHeld.size)
              refine ⟨hHeld, ?_⟩
              simp only [Act.put, List.setIfInBounds_toArray, List.set_cons_zero, List.set_cons_succ]
              refine wpAnyH_one 9 (by kernel_rfl) rfl rfl ?_
              · refine wp_allocR 65 rfl _ Safg.zero65 ?_
                intro w4 g5 hg5 k5 b4
                have h5 : w3.heap.size ≤ g5 := Nat.le_trans hHeld.size hg5
                have hHeld := hHeld.trans (b4.mono hHeld.size)
                refine ⟨hHeld, ?_⟩
                simp only [Act.put, List.setIfInBounds_toArray, List.set_cons_zero, List.set_cons_succ]
                refine wpAnyH_one 10 (by kernel_rfl) rfl rfl ?_
                refine wp_storeR 65 _ _ rfl g5 rfl _ q.cells rfl k5 rfl Safg.size65 (Wd4.one _) ?_
                intro w4 k5 o5
                have hHeld := hHeld.trans (o5.below h5)
                refine ⟨hHeld, ?_⟩
                simp only [Act.put, List.setIfInBounds_toArray, List.set_cons_zero, List.set_cons_succ]
                refine wpAnyH_done (by kernel_rfl) ?_ _
                go_wp2_with fail
                go_meet
                exact ⟨g5, q, rfl, h5, k5, okq, by rw [vq, va, vb], hHeld⟩
            · refine wp_allocR 65 rfl _ Safg.zero65 ?_
              intro w4 g5 hg5 k5 b4
              have h5 : w3.heap.size ≤ g5 := Nat.le_trans hHeld.size hg5
              have hHeld := hHeld.trans (b4.mono hHeld.size)
              refine ⟨hHeld, ?_⟩
              simp only [Act.put, List.setIfInBounds_toArray, List.set_cons_zero, List.set_cons_succ]
              refine wpAnyH_one 8 (by kernel_rfl) rfl rfl ?_
              · refine wp_callR Safg.func208 (by kernel_rfl) (by kernel_rfl) (uDiv_any _ sa sb oka okb) rfl rfl ?_
                rintro e w4 ⟨q, okq, vq, rfl, b4⟩
                have k5 := k5.below b4 k5.lt
                refine ⟨_, rfl, ?_⟩
                have hHeld := hHeld.trans (b4.mono hHeld.size)
                refine ⟨hHeld, ?_⟩
                simp only [Act.put, List.setIfInBounds_toArray, List.set_cons_zero, List.set_cons_succ]
                refine wpAnyH_one 10 (by kernel_rfl) rfl rfl ?_
                refine wp_storeR 65 _ _ rfl g5 rfl _ q.cells rfl k5 rfl Safg.size65 (Wd4.one _) ?_
                intro w4 k5 o5
                have hHeld := hHeld.trans (o5.below h5)
                refine ⟨hHeld, ?_⟩
                simp only [Act.put, List.setIfInBounds_toArray, List.set_cons_zero, List.set_cons_succ]
                refine wpAnyH_done (by kernel_rfl) ?_ _
                go_wp2_with fail
                go_meet
                exact ⟨g5, q, rfl, h5, k5, okq, by rw [vq, va, vb], hHeld⟩
          · refine wp_allocR 65 rfl _ Safg.zero65 ?_
            intro w4 g5 hg5 k5 b4
            have h5 : w3.heap.size ≤ g5 := Nat.le_trans hHeld.size hg5
            have hHeld := hHeld.trans (b4.mono hHeld.size)
            refine ⟨hHeld, ?_⟩
            simp only [Act.put, List.setIfInBounds_toArray, List.set_cons_zero, List.set_cons_succ]
            refine wpAnyH_one 7 (by kernel_rfl) rfl rfl ?_
            · refine wp_callR Safg.func330 (by kernel_rfl) (by kernel_rfl) (HSB _) rfl rfl ?_
              rintro e w4 ⟨sb, okb, vb, rfl, b4⟩
              have k5 := k5.below b4 k5.lt
              refine ⟨_, rfl, ?_⟩
              have hHeld := hHeld.trans (b4.mono hHeld.size)
              refine ⟨hHeld, ?_⟩
              simp only [Act.put, List.setIfInBounds_toArray, List.set_cons_zero, List.set_cons_succ]
              refine wpAnyH_one 8 (by kernel_rfl) rfl rfl ?_
              · refine wp_callR Safg.func208 (by kernel_rfl) (by kernel_rfl) (uDiv_any _ sa sb oka okb) rfl rfl ?_
                rintro e w4 ⟨q, okq, vq, rfl, b4⟩
                have k5 := k5.below b4 k5.lt
                refine ⟨_, rfl, ?_⟩
                have hHeld := hHeld.trans (b4.mono hHeld.size)
                refine ⟨hHeld, ?_⟩
                simp only [Act.put, List.setIfInBounds_toArray, List.set_cons_zero, List.set_cons_succ]
                refine wpAnyH_one 10 (by kernel_rfl) rfl rfl ?_
                refine wp_storeR 65 _ _ rfl g5 rfl _ q.cells rfl k5 rfl Safg.size65 (Wd4.one _) ?_
                intro w4 k5 o5
                have hHeld := hHeld.trans (o5.below h5)
                refine ⟨hHeld, ?_⟩
                simp only [Act.put, List.setIfInBounds_toArray, List.set_cons_zero, List.set_cons_succ]
                refine wpAnyH_done (by kernel_rfl) ?_ _
                go_wp2_with fail
                go_meet
                exact ⟨g5, q, rfl, h5, k5, okq, by rw [vq, va, vb], hHeld⟩
        · refine wp_allocR 65 rfl _ Safg.zero65 ?_
          intro w4 g5 hg5 k5 b4
          have h5 : w3.heap.size ≤ g5 := Nat.le_trans hHeld.size hg5
          have hHeld := hHeld.trans (b4.mono hHeld.size)
          refine ⟨hHeld, ?_⟩
          simp only [Act.put, List.setIfInBounds_toArray, List.set_cons_zero, List.set_cons_succ]
          refine wpAnyH_one 6 (by kernel_rfl) rfl rfl ?_
          · refine wp_callR Safg.func331 (by kernel_rfl) (by kernel_rfl) (HNB _) rfl rfl ?_
            rintro e w4 ⟨rfl, b4⟩
            have k5 := k5.below b4 k5.lt
            refine ⟨_, rfl, ?_⟩
            have hHeld := hHeld.trans (b4.mono hHeld.size)
            refine ⟨hHeld, ?_⟩
            simp only [Act.put, List.setIfInBounds_toArray, List.set_cons_zero, List.set_cons_succ]
            refine wpAnyH_one 7 (by kernel_rfl) rfl rfl ?_
            · refine wp_callR Safg.func330 (by kernel_rfl) (by kernel_rfl) (HSB _) rfl rfl ?_
              rintro e w4 ⟨sb, okb, vb, rfl, b4⟩
              have k5 := k5.below b4 k5.lt
              refine ⟨_, rfl, ?_⟩
              have hHeld := hHeld.trans (b4.mono hHeld.size)
              refine ⟨hHeld, ?_⟩
              simp only [Act.put, List.setIfInBounds_toArray, List.set_cons_zero, List.set_cons_succ]
              refine wpAnyH_one 8 (by kernel_rfl) rfl rfl ?_
              · refine wp_callR Safg.func208 (by kernel_rfl) (by kernel_rfl) (uDiv_any _ sa sb oka okb) rfl rfl ?_
                rintro e w4 ⟨q, okq, vq, rfl, b4⟩
                have k5 := k5.below b4 k5.lt
                refine ⟨_, rfl, ?_⟩
                have hHeld := hHeld.trans (b4.mono hHeld.size)
                refine ⟨hHeld, ?_⟩
                simp only [Act.put, List.setIfInBounds_toArray, List.set_cons_zero, List.set_cons_succ]
                refine wpAnyH_one 10 (by kernel_rfl) rfl rfl ?_
                refine wp_storeR 65 _ _ rfl g5 rfl _ q.cells rfl k5 rfl Safg.size65 (Wd4.one _) ?_
                intro w4 k5 o5
                have hHeld := hHeld.trans (o5.below h5)
                refine ⟨hHeld, ?_⟩
                simp only [Act.put, List.setIfInBounds_toArray, List.set_cons_zero, List.set_cons_succ]
                refine wpAnyH_done (by kernel_rfl) ?_ _
                go_wp2_with fail
                go_meet
                exact ⟨g5, q, rfl, h5, k5, okq, by rw [vq, va, vb], hHeld⟩
      · refine wp_allocR 65 rfl _ Safg.zero65 ?_
        intro w4 g5 hg5 k5 b4
        have h5 : w3.heap.size ≤ g5 := Nat.le_trans hHeld.size hg5
        have hHeld := hHeld.trans (b4.mono hHeld.size)
        refine ⟨hHeld, ?_⟩
        simp only [Act.put, List.setIfInBounds_toArray, List.set_cons_zero, List.set_cons_succ]
        refine wpAnyH_one 3 (by kernel_rfl) rfl rfl ?_
        · refine wp_callR Safg.func330 (by kernel_rfl) (by kernel_rfl) (HSA _) rfl rfl ?_
          rintro e w4 ⟨sa, oka, va, rfl, b4⟩
          have k5 := k5.below b4 k5.lt
          refine ⟨_, rfl, ?_⟩
          have hHeld := hHeld.trans (b4.mono hHeld.size)
          refine ⟨hHeld, ?_⟩
          simp only [Act.put, List.setIfInBounds_toArray, List.set_cons_zero, List.set_cons_succ]
          refine wpAnyH_one 6 (by kernel_rfl) rfl rfl ?_
          · refine wp_callR Safg.func331 (by kernel_rfl) (by kernel_rfl) (HNB _) rfl rfl ?_
            rintro e w4 ⟨rfl, b4⟩
            have k5 := k5.below b4 k5.lt
            refine ⟨_, rfl, ?_⟩
            have hHeld := hHeld.trans (b4.mono hHeld.size)
            refine ⟨hHeld, ?_⟩
            simp only [Act.put, List.setIfInBounds_toArray, List.set_cons_zero, List.set_cons_succ]
            refine wpAnyH_one 7 (by kernel_rfl) rfl rfl ?_
            · refine wp_callR Safg.func330 (by kernel_rfl) (by kernel_rfl) (HSB _) rfl rfl ?_
              rintro e w4 ⟨sb, okb, vb, rfl, b4⟩
              have k5 := k5.below b4 k5.lt
              refine ⟨_, rfl, ?_⟩
              have hHeld := hHeld.trans (b4.mono hHeld.size)
              refine ⟨hHeld, ?_⟩
              simp only [Act.put, List.setIfInBounds_toArray, List.set_cons_zero, List.set_cons_succ]
              refine wpAnyH_one 8 (by kernel_rfl) rfl rfl ?_
              · refine wp_callR Safg.func208 (by kernel_rfl) (by kernel_rfl) (uDiv_any _ sa sb oka okb) rfl rfl ?_
                rintro e w4 ⟨q, okq, vq, rfl, b4⟩
                have k5 := k5.below b4 k5.lt
                refine ⟨_, rfl, ?_⟩
                have hHeld := hHeld.trans (b4.mono hHeld.size)
                refine ⟨hHeld, ?_⟩
                simp only [Act.put, List.setIfInBounds_toArray, List.set_cons_zero, List.set_cons_succ]
                refine wpAnyH_one 10 (by kernel_rfl) rfl rfl ?_
                refine wp_storeR 65 _ _ rfl g5 rfl _ q.cells rfl k5 rfl Safg.size65 (Wd4.one _) ?_
                intro w4 k5 o5
                have hHeld := hHeld.trans (o5.below h5)
                refine ⟨hHeld, ?_⟩
                simp only [Act.put, List.setIfInBounds_toArray, List.set_cons_zero, List.set_cons_succ]
                refine wpAnyH_done (by kernel_rfl) ?_ _
                go_wp2_with fail
                go_meet
                exact ⟨g5, q, rfl, h5, k5, okq, by rw [vq, va, vb], hHeld⟩
    · refine wp_allocR 65 rfl _ Safg.zero65 ?_
      intro w4 g5 hg5 k5 b4
      have h5 : w3.heap.size ≤ g5 := Nat.le_trans hHeld.size hg5
      have hHeld := hHeld.trans (b4.mono hHeld.size)
      refine ⟨hHeld, ?_⟩
      simp only [Act.put, List.setIfInBounds_toArray, List.set_cons_zero, List.set_cons_succ]
      refine wpAnyH_one 2 (by kernel_rfl) rfl rfl ?_
      · refine wp_callR Safg.func331 (by kernel_rfl) (by kernel_rfl) (HNA _) rfl rfl ?_
        rintro e w4 ⟨rfl, b4⟩
        have k5 := k5.below b4 k5.lt
        refine ⟨_, rfl, ?_⟩
        have hHeld := hHeld.trans (b4.mono hHeld.size)
        refine ⟨hHeld, ?_⟩
        simp only [Act.put, List.setIfInBounds_toArray, List.set_cons_zero, List.set_cons_succ]
        refine wpAnyH_one 3 (by kernel_rfl) rfl rfl ?_
        · refine wp_callR Safg.func330 (by kernel_rfl) (by kernel_rfl) (HSA _) rfl rfl ?_
          rintro e w4 ⟨sa, oka, va, rfl, b4⟩
          have k5 := k5.below b4 k5.lt
          refine ⟨_, rfl, ?_⟩
          have hHeld := hHeld.trans (b4.mono hHeld.size)
          refine ⟨hHeld, ?_⟩
          simp only [Act.put, List.setIfInBounds_toArray, List.set_cons_zero, List.set_cons_succ]
          refine wpAnyH_one 6 (by kernel_rfl) rfl rfl ?_
          · refine wp_callR Safg.func331 (by kernel_rfl) (by kernel_rfl) (HNB _) rfl rfl ?_
            rintro e w4 ⟨rfl, b4⟩
            have k5 := k5.below b4 k5.lt
            refine ⟨_, rfl, ?_⟩
            have hHeld := hHeld.trans (b4.mono hHeld.size)
            refine ⟨hHeld, ?_⟩
            simp only [Act.put, List.setIfInBounds_toArray, List.set_cons_zero, List.set_cons_succ]
            refine wpAnyH_one 7 (by kernel_rfl) rfl rfl ?_
            · refine wp_callR Safg.func330 (by kernel_rfl) (by kernel_rfl) (HSB _) rfl rfl ?_
              rintro e w4 ⟨sb, okb, vb, rfl, b4⟩
              have k5 := k5.below b4 k5.lt
              refine ⟨_, rfl, ?_⟩
              have hHeld := hHeld.trans (b4.mono hHeld.size)
              refine ⟨hHeld, ?_⟩
              simp only [Act.put, List.setIfInBounds_toArray, List.set_cons_zero, List.set_cons_succ]
              refine wpAnyH_one 8 (by kernel_rfl) rfl rfl ?_
              · refine wp_callR Safg.func208 (by kernel_rfl) (by kernel_rfl) (uDiv_any _ sa sb oka okb) rfl rfl ?_
                rintro e w4 ⟨q, okq, vq, rfl, b4⟩
                have k5 := k5.below b4 k5.lt
                refine ⟨_, rfl, ?_⟩
                have hHeld := hHeld.trans (b4.mono hHeld.size)
                refine ⟨hHeld, ?_⟩
                simp only [Act.put, List.setIfInBounds_toArray, List.set_cons_zero, List.set_cons_succ]
                refine wpAnyH_one 10 (by kernel_rfl) rfl rfl ?_
                refine wp_storeR 65 _ _ rfl g5 rfl _ q.cells rfl k5 rfl Safg.size65 (Wd4.one _) ?_
                intro w4 k5 o5
                have hHeld := hHeld.trans (o5.below h5)
                refine ⟨hHeld, ?_⟩
                simp only [Act.put, List.setIfInBounds_toArray, List.set_cons_zero, List.set_cons_succ]
                refine wpAnyH_done (by kernel_rfl) ?_ _
                go_wp2_with fail
                go_meet
                exact ⟨g5, q, rfl, h5, k5, okq, by rw [vq, va, vb], hHeld⟩
  case rest =>
    obtain ⟨g5, q, rfl, h5, k5, okq, vq, bx⟩ := hcut
    have r2 : Blk wc g2 a.cells := m2.below bx l2'
    have r3 : Blk wc g3 b.cells := m3.below bx l3'
    have r4 : Blk wc g4 _ := k4.below bx l4
    have l5 := k5.lt
    have VQ : Hid (q.val = ma / mb) := vq
    clear vq
    go_upto_region 2 with fail
    try simp only [Act.put, List.setIfInBounds_toArray, List.set_cons_zero, List.set_cons_succ]
    refine wp_region_held_drew (S := fun w' => Blk w' g2 a.cells ∧ Blk w' g3 b.cells ∧ Blk w' g5 q.cells) (by kernel_rfl) ⟨(Same.drew wc).blk r2, (Same.drew wc).blk r3, (Same.drew wc).blk k5⟩ (fun hHeld => ?_)
    have r4D : Blk wc.drew g4 _ := (Same.drew wc).blk r4
    have bD : Below w.heap.size w wc.drew := b03.trans ((bx.mono b03.size).trans ((Turn.drew_below wc).mono (by have := bx.size; have := b03.size; omega)))
    refine wpAnyH_take' (i := 0) (d := 15) (v := .agg q.cells.toArray) rfl rfl (by kernel_rfl) (by kernel_rfl) (by kernel_rfl) (fun _ _ _ h => h) (yieldsIf_load_mid (by rfl) 65 _ rfl g5 0 rfl q.cells _ (fun w hw => hw.2.2.cell) Safg.under65 rfl Safg.size65) hHeld ?_
    simp only [Act.put, List.setIfInBounds_toArray, List.set_cons_zero, List.set_cons_succ]
    refine wpAnyH_take' (i := 1) (d := 16) (v := .agg a.cells.toArray) rfl rfl (by kernel_rfl) (by kernel_rfl) (by kernel_rfl) (fun _ _ _ h => h) (yieldsIf_load_mid (by rfl) 65 _ rfl g2 0 rfl a.cells _ (fun w hw => hw.1.cell) Safg.under65 rfl Safg.size65) hHeld ?_
    simp only [Act.put, List.setIfInBounds_toArray, List.set_cons_zero, List.set_cons_succ]
    refine wpAnyH_take' (i := 3) (d := 18) (v := .agg b.cells.toArray) rfl rfl (by kernel_rfl) (by kernel_rfl) (by kernel_rfl) (fun _ _ _ h => h) (yieldsIf_load_mid (by rfl) 65 _ rfl g3 0 rfl b.cells _ (fun w hw => hw.2.1.cell) Safg.under65 rfl Safg.size65) hHeld ?_
    simp only [Act.put, List.setIfInBounds_toArray, List.set_cons_zero, List.set_cons_succ]
    refine wpAnyH_one 2 (by kernel_rfl) rfl rfl ?_
    refine wp_callR Safg.func331 (by kernel_rfl) (by kernel_rfl) (HNA _) rfl rfl ?_
    rintro e w4 ⟨rfl, b4⟩
    refine ⟨_, rfl, ?_⟩
    have r4D := r4D.below b4 r4D.lt
    have bD := bD.trans (b4.mono bD.size)
    have hHeld := And.intro (hHeld.1.below b4 hHeld.1.lt) (And.intro (hHeld.2.1.below b4 hHeld.2.1.lt) (hHeld.2.2.below b4 hHeld.2.2.lt))
    refine ⟨hHeld, ?_⟩
    simp only [Act.put, List.setIfInBounds_toArray, List.set_cons_zero, List.set_cons_succ]
    refine wpAnyH_one 4 (by kernel_rfl) rfl rfl ?_
    refine wp_callR Safg.func331 (by kernel_rfl) (by kernel_rfl) (HNB _) rfl rfl ?_
    rintro e w4 ⟨rfl, b4⟩
    refine ⟨_, rfl, ?_⟩
    have r4D := r4D.below b4 r4D.lt
    have bD := bD.trans (b4.mono bD.size)
    have hHeld := And.intro (hHeld.1.below b4 hHeld.1.lt) (And.intro (hHeld.2.1.below b4 hHeld.2.1.lt) (hHeld.2.2.below b4 hHeld.2.2.lt))
    refine ⟨hHeld, ?_⟩
    simp only [Act.put, List.setIfInBounds_toArray, List.set_cons_zero, List.set_cons_succ]
    refine wpAnyH_take' (i := 5) (d := 20) (v := .bool (p != n)) rfl rfl (by kernel_rfl) (by kernel_rfl) (by kernel_rfl) (fun _ _ _ h => h) (Or.inl ⟨by rfl, fun w hw => by first | (go_simp; done) | (go_simp; cases p <;> cases n <;> rfl)⟩) hHeld ?_
    simp only [Act.put, List.setIfInBounds_toArray, List.set_cons_zero, List.set_cons_succ]
    refine wpAnyH_one 6 (by kernel_rfl) rfl rfl ?_
    refine wp_callR Safg.func330 (by kernel_rfl) (by kernel_rfl) (HSQ _ q okq) rfl rfl ?_
    rintro e w4 ⟨r, okr, vr, rfl, b4⟩
    refine ⟨_, rfl, ?_⟩
    have r4D := r4D.below b4 r4D.lt
    have bD := bD.trans (b4.mono bD.size)
    have hHeld := And.intro (hHeld.1.below b4 hHeld.1.lt) (And.intro (hHeld.2.1.below b4 hHeld.2.1.lt) (hHeld.2.2.below b4 hHeld.2.2.lt))
    refine ⟨hHeld, ?_⟩
    simp only [Act.put, List.setIfInBounds_toArray, List.set_cons_zero, List.set_cons_succ]
    refine wpAnyH_one 7 (by kernel_rfl) rfl rfl ?_
    refine wp_storeR 65 _ _ rfl g4 rfl _ r.cells rfl r4D rfl Safg.size65 (Wd4.one _) ?_
    intro w5 k9 o9
    refine ⟨⟨o9.blk hHeld.1 (by omega), o9.blk hHeld.2.1 (by omega), o9.blk hHeld.2.2 (by omega)⟩, ?_⟩
    simp only [Act.put, List.setIfInBounds_toArray, List.set_cons_zero, List.set_cons_succ]
    refine wpAnyH_done (by kernel_rfl) ?_ _
    go_wp2
    refine bodyPost_ret (results_cell1 Safg.results209 _ _ g4 _ _ rfl k9 Safg.under65 rfl Safg.size65) rfl ⟨r, okr, HZ.out r q vr VQ.out, rfl, bD.trans (o9.below (by omega))⟩

set_option maxRecDepth 100000 in
set_option maxHeartbeats 16000000 in
theorem smod_any (w : World) (a b : Wd4) (ha : a.Ok) (hb : b.Ok) :
    Calls Safg.prog 211 #[a.v, b.v] w (WdRes w (sgnW (modW (magW a.val) (magW b.val)) (isNegW a.val))) := by
  have HNA := fun w => negative_nat w a ha
  have HNB := fun w => negative_nat w b hb
  have HSA := fun w => signed_any w a ha (isNegW a.val)
  have HSB := fun w => signed_any w b hb (isNegW b.val)
  have eA : sgnW a.val (isNegW a.val) = magW a.val := rfl
  have eB : sgnW b.val (isNegW b.val) = magW b.val := rfl
  rw [eA] at HSA
  rw [eB] at HSB
  have HSQ := fun (w : World) (q : Wd4) (okq : q.Ok) => signed_any w q okq (isNegW a.val)
  have HZ : Hid (∀ r q : Wd4, r.val = sgnW q.val (isNegW a.val) → q.val = modW (magW a.val) (magW b.val) → r.val = sgnW (modW (magW a.val) (magW b.val)) (isNegW a.val)) := fun r q h1 h2 => by rw [h1, h2]
  clear eA eB
  generalize sgnW (modW (magW a.val) (magW b.val)) (isNegW a.val) = z at *
  generalize magW a.val = ma at *
  generalize magW b.val = mb at *
  generalize isNegW a.val = p at *
  generalize isNegW b.val = n at *
  go_enter Safg.func211, Safg.ntmps211
  go_upto_region 1 with (first | (refine wpList_box_agg rfl 65 (.tmp 0) rfl a.cells rfl ?_; intro w1 g2 hg2 k2 c2) | (refine wpList_box_agg rfl 65 (.tmp 1) rfl b.cells rfl ?_; intro w2 g3 hg3 k3 c3) | (refine wpList_alloc_agg rfl 65 rfl _ Safg.zero65 ?_; intro w3 g4 hg4 k4 c4))
  have s1 := c2.size; have s2 := c3.size; have s3 := c4.size
  have l2 := k2.lt; have l3 := k3.lt; have l4 := k4.lt
  have b03 : Below w.heap.size w w3 := c2.trans ((c3.mono s1).trans (c4.mono (by omega)))
  have m2 : Blk w3 g2 a.cells := (k2.below c3 (by omega)).below c4 (by omega)
  have m3 : Blk w3 g3 b.cells := k3.below c4 (by omega)
  have l2' := m2.lt; have l3' := m3.lt
  clear c2 c3 c4 k2 k3
  simp only [Act.put, List.setIfInBounds_toArray, List.set_cons_zero, List.set_cons_succ]
  go_cut [5] (fun c wx => ∃ (g5 : Nat) (q : Wd4), c = .pointer (some ⟨g5, 0, none⟩) ∧ w3.heap.size ≤ g5 ∧ Blk wx g5 q.cells ∧ q.Ok ∧ q.val = modW (ma) (mb) ∧ Below w3.heap.size w3 wx)
  case first =>
    refine wp_region_held_drew (S := fun w' => Below w3.heap.size w3 w') (by kernel_rfl) (Turn.drew_below w3) (fun hHeld => ?_)
    refine wpAnyH_take' (i := 0) (d := 6) (v := .agg a.cells.toArray) rfl rfl (by kernel_rfl) (by kernel_rfl) (by kernel_rfl) (fun _ _ _ h => h) (yieldsIf_load_mid (by rfl) 65 _ rfl g2 0 rfl a.cells _ (fun w hw => (m2.below hw l2').cell) Safg.under65 rfl Safg.size65) hHeld ?_
    simp only [Act.put, List.setIfInBounds_toArray, List.set_cons_zero, List.set_cons_succ]
    refine wpAnyH_take' (i := 1) (d := 7) (v := .agg a.cells.toArray) rfl rfl (by kernel_rfl) (by kernel_rfl) (by kernel_rfl) (fun _ _ _ h => h) (yieldsIf_load_mid (by rfl) 65 _ rfl g2 0 rfl a.cells _ (fun w hw => (m2.below hw l2').cell) Safg.under65 rfl Safg.size65) hHeld ?_
    simp only [Act.put, List.setIfInBounds_toArray, List.set_cons_zero, List.set_cons_succ]
    refine wpAnyH_take' (i := 4) (d := 10) (v := .agg b.cells.toArray) rfl rfl (by kernel_rfl) (by kernel_rfl) (by kernel_rfl) (fun _ _ _ h => h) (yieldsIf_load_mid (by rfl) 65 _ rfl g3 0 rfl b.cells _ (fun w hw => (m3.below hw l3').cell) Safg.under65 rfl Safg.size65) hHeld ?_
    simp only [Act.put, List.setIfInBounds_toArray, List.set_cons_zero, List.set_cons_succ]
    refine wpAnyH_take' (i := 5) (d := 11) (v := .agg b.cells.toArray) rfl rfl (by kernel_rfl) (by kernel_rfl) (by kernel_rfl) (fun _ _ _ h => h) (yieldsIf_load_mid (by rfl) 65 _ rfl g3 0 rfl b.cells _ (fun w hw => (m3.below hw l3').cell) Safg.under65 rfl Safg.size65) hHeld ?_
    simp only [Act.put, List.setIfInBounds_toArray, List.set_cons_zero, List.set_cons_succ]
    refine wpAnyH_two 2 9 (by kernel_rfl) rfl rfl rfl rfl ?_ ?_
    · refine wp_callR Safg.func331 (by kernel_rfl) (by kernel_rfl) (HNA _) rfl rfl ?_
      rintro e w4 ⟨rfl, b4⟩
      refine ⟨_, rfl, ?_⟩
      have hHeld := hHeld.trans (b4.mono hHeld.size)
      refine ⟨hHeld, ?_⟩
      simp only [Act.put, List.setIfInBounds_toArray, List.set_cons_zero, List.set_cons_succ]
      refine wpAnyH_two 3 9 (by kernel_rfl) rfl rfl rfl rfl ?_ ?_
      · refine wp_callR Safg.func330 (by kernel_rfl) (by kernel_rfl) (HSA _) rfl rfl ?_
        rintro e w4 ⟨sa, oka, va, rfl, b4⟩
        refine ⟨_, rfl, ?_⟩
        have hHeld := hHeld.trans (b4.mono hHeld.size)
        refine ⟨hHeld, ?_⟩
        simp only [Act.put, List.setIfInBounds_toArray, List.set_cons_zero, List.set_cons_succ]
        refine wpAnyH_two 6 9 (by kernel_rfl) rfl rfl rfl rfl ?_ ?_
        · refine wp_callR Safg.func331 (by kernel_rfl) (by kernel_rfl) (HNB _) rfl rfl ?_
          rintro e w4 ⟨rfl, b4⟩
          refine ⟨_, rfl, ?_⟩
          have hHeld := hHeld.trans (b4.mono hHeld.size)
          refine ⟨hHeld, ?_⟩
          simp only [Act.put, List.setIfInBounds_toArray, List.set_cons_zero, List.set_cons_succ]
          refine wpAnyH_two 7 9 (by kernel_rfl) rfl rfl rfl rfl ?_ ?_
          · refine wp_callR Safg.func330 (by kernel_rfl) (by kernel_rfl) (HSB _) rfl rfl ?_
            rintro e w4 ⟨sb, okb, vb, rfl, b4⟩
            refine ⟨_, rfl, ?_⟩
            have hHeld := hHeld.trans (b4.mono hHeld.size)
            refine ⟨hHeld, ?_⟩
            simp only [Act.put, List.setIfInBounds_toArray, List.set_cons_zero, List.set_cons_succ]
            refine wpAnyH_two 8 9 (by kernel_rfl) rfl rfl rfl rfl ?_ ?_
            · refine wp_callR Safg.func210 (by kernel_rfl) (by kernel_rfl) (uMod_any _ sa sb oka okb) rfl rfl ?_
              rintro e w4 ⟨q, okq, vq, rfl, b4⟩
              refine ⟨_, rfl, ?_⟩
              have hHeld := hHeld.trans (b4.mono hHeld.size)
              refine ⟨hHeld, ?_⟩
              simp only [Act.put, List.setIfInBounds_toArray, List.set_cons_zero, List.set_cons_succ]
              refine wpAnyH_one 9 (by kernel_rfl) rfl rfl ?_
              · refine wp_allocR 65 rfl _ Safg.zero65 ?_
                intro w4 g5 hg5 k5 b4
                have h5 : w3.heap.size ≤ g5 := Nat.le_trans hHeld.size hg5
                have hHeld := hHeld.trans (b4.mono hHeld.size)
                refine ⟨hHeld, ?_⟩
                simp only [Act.put, List.setIfInBounds_toArray, List.set_cons_zero, List.set_cons_succ]
                refine wpAnyH_one 10 (by kernel_rfl) rfl rfl ?_
                refine wp_storeR 65 _ _ rfl g5 rfl _ q.cells rfl k5 rfl Safg.size65 (Wd4.one _) ?_
                intro w4 k5 o5
                have hHeld := hHeld.trans (o5.below h5)
                refine ⟨hHeld, ?_⟩
                simp only [Act.put, List.setIfInBounds_toArray, List.set_cons_zero, List.set_cons_succ]
                refine wpAnyH_done (by kernel_rfl) ?_ _
                go_wp2_with fail
                go_meet
                exact ⟨g5, q, rfl, h5, k5, okq, by rw [vq, va, vb], hHeld⟩
            · refine wp_allocR 65 rfl _ Safg.zero65 ?_
              intro w4 g5 hg5 k5 b4
              have h5 : w3.heap.size ≤ g5 := Nat.le_trans hHeld.size hg5
              have hHeld := hHeld.trans (b4.mono hHeld.size)
              refine ⟨hHeld, ?_⟩
              simp only [Act.put, List.setIfInBounds_toArray, List.set_cons_zero, List.set_cons_succ]
              refine wpAnyH_one 8 (by kernel_rfl) rfl rfl ?_
              · refine wp_callR Safg.func210 (by kernel_rfl) (by kernel_rfl) (uMod_any _ sa sb oka okb) rfl rfl ?_
                rintro e w4 ⟨q, okq, vq, rfl, b4⟩
                have k5 := k5.below b4 k5.lt
                refine ⟨_, rfl, ?_⟩
                have hHeld := hHeld.trans (b4.mono hHeld.size)
                refine ⟨hHeld, ?_⟩
                simp only [Act.put, List.setIfInBounds_toArray, List.set_cons_zero, List.set_cons_succ]
                refine wpAnyH_one 10 (by kernel_rfl) rfl rfl ?_
                refine wp_storeR 65 _ _ rfl g5 rfl _ q.cells rfl k5 rfl Safg.size65 (Wd4.one _) ?_
                intro w4 k5 o5
                have hHeld := hHeld.trans (o5.below h5)
                refine ⟨hHeld, ?_⟩
                simp only [Act.put, List.setIfInBounds_toArray, List.set_cons_zero, List.set_cons_succ]
                refine wpAnyH_done (by kernel_rfl) ?_ _
                go_wp2_with fail
                go_meet
                exact ⟨g5, q, rfl, h5, k5, okq, by rw [vq, va, vb], hHeld⟩
          · refine wp_allocR 65 rfl _ Safg.zero65 ?_
            intro w4 g5 hg5 k5 b4
            have h5 : w3.heap.size ≤ g5 := Nat.le_trans hHeld.size hg5
            have hHeld := hHeld.trans (b4.mono hHeld.size)
            refine ⟨hHeld, ?_⟩
            simp only [Act.put, List.setIfInBounds_toArray, List.set_cons_zero, List.set_cons_succ]
            refine wpAnyH_one 7 (by kernel_rfl) rfl rfl ?_
            · refine wp_callR Safg.func330 (by kernel_rfl) (by kernel_rfl) (HSB _) rfl rfl ?_
              rintro e w4 ⟨sb, okb, vb, rfl, b4⟩
              have k5 := k5.below b4 k5.lt
              refine ⟨_, rfl, ?_⟩
              have hHeld := hHeld.trans (b4.mono hHeld.size)
              refine ⟨hHeld, ?_⟩
              simp only [Act.put, List.setIfInBounds_toArray, List.set_cons_zero, List.set_cons_succ]
              refine wpAnyH_one 8 (by kernel_rfl) rfl rfl ?_
              · refine wp_callR Safg.func210 (by kernel_rfl) (by kernel_rfl) (uMod_any _ sa sb oka okb) rfl rfl ?_
                rintro e w4 ⟨q, okq, vq, rfl, b4⟩
                have k5 := k5.below b4 k5.lt
                refine ⟨_, rfl, ?_⟩
                have hHeld := hHeld.trans (b4.mono hHeld.size)
                refine ⟨hHeld, ?_⟩
                simp only [Act.put, List.setIfInBounds_toArray, List.set_cons_zero, List.set_cons_succ]
                refine wpAnyH_one 10 (by kernel_rfl) rfl rfl ?_
                refine wp_storeR 65 _ _ rfl g5 rfl _ q.cells rfl k5 rfl Safg.size65 (Wd4.one _) ?_
                intro w4 k5 o5
                have hHeld := hHeld.trans (o5.below h5)
                refine ⟨hHeld, ?_⟩
                simp only [Act.put, List.setIfInBounds_toArray, List.set_cons_zero, List.set_cons_succ]
                refine wpAnyH_done (by kernel_rfl) ?_ _
                go_wp2_with fail
                go_meet
                exact ⟨g5, q, rfl, h5, k5, okq, by rw [vq, va, vb], hHeld⟩
        · refine wp_allocR 65 rfl _ Safg.zero65 ?_
          intro w4 g5 hg5 k5 b4
          have h5 : w3.heap.size ≤ g5 := Nat.le_trans hHeld.size hg5
          have hHeld := hHeld.trans (b4.mono hHeld.size)
          refine ⟨hHeld, ?_⟩
          simp only [Act.put, List.setIfInBounds_toArray, List.set_cons_zero, List.set_cons_succ]
          refine wpAnyH_one 6 (by kernel_rfl) rfl rfl ?_
          · refine wp_callR Safg.func331 (by kernel_rfl) (by kernel_rfl) (HNB _) rfl rfl ?_
            rintro e w4 ⟨rfl, b4⟩
            have k5 := k5.below b4 k5.lt
            refine ⟨_, rfl, ?_⟩
            have hHeld := hHeld.trans (b4.mono hHeld.size)
            refine ⟨hHeld, ?_⟩
            simp only [Act.put, List.setIfInBounds_toArray, List.set_cons_zero, List.set_cons_succ]
            refine wpAnyH_one 7 (by kernel_rfl) rfl rfl ?_
            · refine wp_callR Safg.func330 (by kernel_rfl) (by kernel_rfl) (HSB _) rfl rfl ?_
              rintro e w4 ⟨sb, okb, vb, rfl, b4⟩
              have k5 := k5.below b4 k5.lt
              refine ⟨_, rfl, ?_⟩
              have hHeld := hHeld.trans (b4.mono hHeld.size)
              refine ⟨hHeld, ?_⟩
              simp only [Act.put, List.setIfInBounds_toArray, List.set_cons_zero, List.set_cons_succ]
              refine wpAnyH_one 8 (by kernel_rfl) rfl rfl ?_
              · refine wp_callR Safg.func210 (by kernel_rfl) (by kernel_rfl) (uMod_any _ sa sb oka okb) rfl rfl ?_
                rintro e w4 ⟨q, okq, vq, rfl, b4⟩
                have k5 := k5.below b4 k5.lt
                refine ⟨_, rfl, ?_⟩
                have hHeld := hHeld.trans (b4.mono hHeld.size)
                refine ⟨hHeld, ?_⟩
                simp only [Act.put, List.setIfInBounds_toArray, List.set_cons_zero, List.set_cons_succ]
                refine wpAnyH_one 10 (by kernel_rfl) rfl rfl ?_
                refine wp_storeR 65 _ _ rfl g5 rfl _ q.cells rfl k5 rfl Safg.size65 (Wd4.one _) ?_
                intro w4 k5 o5
                have hHeld := hHeld.trans (o5.below h5)
                refine ⟨hHeld, ?_⟩
                simp only [Act.put, List.setIfInBounds_toArray, List.set_cons_zero, List.set_cons_succ]
                refine wpAnyH_done (by kernel_rfl) ?_ _
                go_wp2_with fail
                go_meet
                exact ⟨g5, q, rfl, h5, k5, okq, by rw [vq, va, vb], hHeld⟩
      · refine wp_allocR 65 rfl _ Safg.zero65 ?_
        intro w4 g5 hg5 k5 b4
        have h5 : w3.heap.size ≤ g5 := Nat.le_trans hHeld.size hg5
        have hHeld := hHeld.trans (b4.mono hHeld.size)
        refine ⟨hHeld, ?_⟩
        simp only [Act.put, List.setIfInBounds_toArray, List.set_cons_zero, List.set_cons_succ]
        refine wpAnyH_one 3 (by kernel_rfl) rfl rfl ?_
        · refine wp_callR Safg.func330 (by kernel_rfl) (by kernel_rfl) (HSA _) rfl rfl ?_
          rintro e w4 ⟨sa, oka, va, rfl, b4⟩
          have k5 := k5.below b4 k5.lt
          refine ⟨_, rfl, ?_⟩
          have hHeld := hHeld.trans (b4.mono hHeld.size)
          refine ⟨hHeld, ?_⟩
          simp only [Act.put, List.setIfInBounds_toArray, List.set_cons_zero, List.set_cons_succ]
          refine wpAnyH_one 6 (by kernel_rfl) rfl rfl ?_
          · refine wp_callR Safg.func331 (by kernel_rfl) (by kernel_rfl) (HNB _) rfl rfl ?_
            rintro e w4 ⟨rfl, b4⟩
            have k5 := k5.below b4 k5.lt
            refine ⟨_, rfl, ?_⟩
            have hHeld := hHeld.trans (b4.mono hHeld.size)
            refine ⟨hHeld, ?_⟩
            simp only [Act.put, List.setIfInBounds_toArray, List.set_cons_zero, List.set_cons_succ]
            refine wpAnyH_one 7 (by kernel_rfl) rfl rfl ?_
            · refine wp_callR Safg.func330 (by kernel_rfl) (by kernel_rfl) (HSB _) rfl rfl ?_
              rintro e w4 ⟨sb, okb, vb, rfl, b4⟩
              have k5 := k5.below b4 k5.lt
              refine ⟨_, rfl, ?_⟩
              have hHeld := hHeld.trans (b4.mono hHeld.size)
              refine ⟨hHeld, ?_⟩
              simp only [Act.put, List.setIfInBounds_toArray, List.set_cons_zero, List.set_cons_succ]
              refine wpAnyH_one 8 (by kernel_rfl) rfl rfl ?_
              · refine wp_callR Safg.func210 (by kernel_rfl) (by kernel_rfl) (uMod_any _ sa sb oka okb) rfl rfl ?_
                rintro e w4 ⟨q, okq, vq, rfl, b4⟩
                have k5 := k5.below b4 k5.lt
                refine ⟨_, rfl, ?_⟩
                have hHeld := hHeld.trans (b4.mono hHeld.size)
                refine ⟨hHeld, ?_⟩
                simp only [Act.put, List.setIfInBounds_toArray, List.set_cons_zero, List.set_cons_succ]
                refine wpAnyH_one 10 (by kernel_rfl) rfl rfl ?_
                refine wp_storeR 65 _ _ rfl g5 rfl _ q.cells rfl k5 rfl Safg.size65 (Wd4.one _) ?_
                intro w4 k5 o5
                have hHeld := hHeld.trans (o5.below h5)
                refine ⟨hHeld, ?_⟩
                simp only [Act.put, List.setIfInBounds_toArray, List.set_cons_zero, List.set_cons_succ]
                refine wpAnyH_done (by kernel_rfl) ?_ _
                go_wp2_with fail
                go_meet
                exact ⟨g5, q, rfl, h5, k5, okq, by rw [vq, va, vb], hHeld⟩
    · refine wp_allocR 65 rfl _ Safg.zero65 ?_
      intro w4 g5 hg5 k5 b4
      have h5 : w3.heap.size ≤ g5 := Nat.le_trans hHeld.size hg5
      have hHeld := hHeld.trans (b4.mono hHeld.size)
      refine ⟨hHeld, ?_⟩
      simp only [Act.put, List.setIfInBounds_toArray, List.set_cons_zero, List.set_cons_succ]
      refine wpAnyH_one 2 (by kernel_rfl) rfl rfl ?_
      · refine wp_callR Safg.func331 (by kernel_rfl) (by kernel_rfl) (HNA _) rfl rfl ?_
        rintro e w4 ⟨rfl, b4⟩
        have k5 := k5.below b4 k5.lt
        refine ⟨_, rfl, ?_⟩
        have hHeld := hHeld.trans (b4.mono hHeld.size)
        refine ⟨hHeld, ?_⟩
        simp only [Act.put, List.setIfInBounds_toArray, List.set_cons_zero, List.set_cons_succ]
        refine wpAnyH_one 3 (by kernel_rfl) rfl rfl ?_
        · refine wp_callR Safg.func330 (by kernel_rfl) (by kernel_rfl) (HSA _) rfl rfl ?_
          rintro e w4 ⟨sa, oka, va, rfl, b4⟩
          have k5 := k5.below b4 k5.lt
          refine ⟨_, rfl, ?_⟩
          have hHeld := hHeld.trans (b4.mono hHeld.size)
          refine ⟨hHeld, ?_⟩
          simp only [Act.put, List.setIfInBounds_toArray, List.set_cons_zero, List.set_cons_succ]
          refine wpAnyH_one 6 (by kernel_rfl) rfl rfl ?_
          · refine wp_callR Safg.func331 (by kernel_rfl) (by kernel_rfl) (HNB _) rfl rfl ?_
            rintro e w4 ⟨rfl, b4⟩
            have k5 := k5.below b4 k5.lt
            refine ⟨_, rfl, ?_⟩
            have hHeld := hHeld.trans (b4.mono hHeld.size)
            refine ⟨hHeld, ?_⟩
            simp only [Act.put, List.setIfInBounds_toArray, List.set_cons_zero, List.set_cons_succ]
            refine wpAnyH_one 7 (by kernel_rfl) rfl rfl ?_
            · refine wp_callR Safg.func330 (by kernel_rfl) (by kernel_rfl) (HSB _) rfl rfl ?_
              rintro e w4 ⟨sb, okb, vb, rfl, b4⟩
              have k5 := k5.below b4 k5.lt
              refine ⟨_, rfl, ?_⟩
              have hHeld := hHeld.trans (b4.mono hHeld.size)
              refine ⟨hHeld, ?_⟩
              simp only [Act.put, List.setIfInBounds_toArray, List.set_cons_zero, List.set_cons_succ]
              refine wpAnyH_one 8 (by kernel_rfl) rfl rfl ?_
              · refine wp_callR Safg.func210 (by kernel_rfl) (by kernel_rfl) (uMod_any _ sa sb oka okb) rfl rfl ?_
                rintro e w4 ⟨q, okq, vq, rfl, b4⟩
                have k5 := k5.below b4 k5.lt
                refine ⟨_, rfl, ?_⟩
                have hHeld := hHeld.trans (b4.mono hHeld.size)
                refine ⟨hHeld, ?_⟩
                simp only [Act.put, List.setIfInBounds_toArray, List.set_cons_zero, List.set_cons_succ]
                refine wpAnyH_one 10 (by kernel_rfl) rfl rfl ?_
                refine wp_storeR 65 _ _ rfl g5 rfl _ q.cells rfl k5 rfl Safg.size65 (Wd4.one _) ?_
                intro w4 k5 o5
                have hHeld := hHeld.trans (o5.below h5)
                refine ⟨hHeld, ?_⟩
                simp only [Act.put, List.setIfInBounds_toArray, List.set_cons_zero, List.set_cons_succ]
                refine wpAnyH_done (by kernel_rfl) ?_ _
                go_wp2_with fail
                go_meet
                exact ⟨g5, q, rfl, h5, k5, okq, by rw [vq, va, vb], hHeld⟩
  case rest =>
    obtain ⟨g5, q, rfl, h5, k5, okq, vq, bx⟩ := hcut
    have r2 : Blk wc g2 a.cells := m2.below bx l2'
    have r3 : Blk wc g3 b.cells := m3.below bx l3'
    have r4 : Blk wc g4 _ := k4.below bx l4
    have l5 := k5.lt
    have VQ : Hid (q.val = modW (ma) (mb)) := vq
    clear vq
    go_upto_region 2 with fail
    try simp only [Act.put, List.setIfInBounds_toArray, List.set_cons_zero, List.set_cons_succ]
    refine wp_region_held_drew (S := fun w' => Blk w' g2 a.cells ∧ Blk w' g3 b.cells ∧ Blk w' g5 q.cells) (by kernel_rfl) ⟨(Same.drew wc).blk r2, (Same.drew wc).blk r3, (Same.drew wc).blk k5⟩ (fun hHeld => ?_)
    have r4D : Blk wc.drew g4 _ := (Same.drew wc).blk r4
    have bD : Below w.heap.size w wc.drew := b03.trans ((bx.mono b03.size).trans ((Turn.drew_below wc).mono (by have := bx.size; have := b03.size; omega)))
    refine wpAnyH_take' (i := 0) (d := 15) (v := .agg q.cells.toArray) rfl rfl (by kernel_rfl) (by kernel_rfl) (by kernel_rfl) (fun _ _ _ h => h) (yieldsIf_load_mid (by rfl) 65 _ rfl g5 0 rfl q.cells _ (fun w hw => hw.2.2.cell) Safg.under65 rfl Safg.size65) hHeld ?_
    simp only [Act.put, List.setIfInBounds_toArray, List.set_cons_zero, List.set_cons_succ]
    refine wpAnyH_take' (i := 1) (d := 16) (v := .agg a.cells.toArray) rfl rfl (by kernel_rfl) (by kernel_rfl) (by kernel_rfl) (fun _ _ _ h => h) (yieldsIf_load_mid (by rfl) 65 _ rfl g2 0 rfl a.cells _ (fun w hw => hw.1.cell) Safg.under65 rfl Safg.size65) hHeld ?_
    simp only [Act.put, List.setIfInBounds_toArray, List.set_cons_zero, List.set_cons_succ]
    refine wpAnyH_one 2 (by kernel_rfl) rfl rfl ?_
    refine wp_callR Safg.func331 (by kernel_rfl) (by kernel_rfl) (HNA _) rfl rfl ?_
    rintro e w4 ⟨rfl, b4⟩
    refine ⟨_, rfl, ?_⟩
    have r4D := r4D.below b4 r4D.lt
    have bD := bD.trans (b4.mono bD.size)
    have hHeld := And.intro (hHeld.1.below b4 hHeld.1.lt) (And.intro (hHeld.2.1.below b4 hHeld.2.1.lt) (hHeld.2.2.below b4 hHeld.2.2.lt))
    refine ⟨hHeld, ?_⟩
    simp only [Act.put, List.setIfInBounds_toArray, List.set_cons_zero, List.set_cons_succ]
    refine wpAnyH_one 3 (by kernel_rfl) rfl rfl ?_
    refine wp_callR Safg.func330 (by kernel_rfl) (by kernel_rfl) (HSQ _ q okq) rfl rfl ?_
    rintro e w4 ⟨r, okr, vr, rfl, b4⟩
    refine ⟨_, rfl, ?_⟩
    have r4D := r4D.below b4 r4D.lt
    have bD := bD.trans (b4.mono bD.size)
    have hHeld := And.intro (hHeld.1.below b4 hHeld.1.lt) (And.intro (hHeld.2.1.below b4 hHeld.2.1.lt) (hHeld.2.2.below b4 hHeld.2.2.lt))
    refine ⟨hHeld, ?_⟩
    simp only [Act.put, List.setIfInBounds_toArray, List.set_cons_zero, List.set_cons_succ]
    refine wpAnyH_one 4 (by kernel_rfl) rfl rfl ?_
    refine wp_storeR 65 _ _ rfl g4 rfl _ r.cells rfl r4D rfl Safg.size65 (Wd4.one _) ?_
    intro w5 k9 o9
    refine ⟨⟨o9.blk hHeld.1 (by omega), o9.blk hHeld.2.1 (by omega), o9.blk hHeld.2.2 (by omega)⟩, ?_⟩
    simp only [Act.put, List.setIfInBounds_toArray, List.set_cons_zero, List.set_cons_succ]
    refine wpAnyH_done (by kernel_rfl) ?_ _
    go_wp2
    refine bodyPost_ret (results_cell1 Safg.results211 _ _ g4 _ _ rfl k9 Safg.under65 rfl Safg.size65) rfl ⟨r, okr, HZ.out r q vr VQ.out, rfl, bD.trans (o9.below (by omega))⟩
end Go.Proofs.YgcsafGreat
