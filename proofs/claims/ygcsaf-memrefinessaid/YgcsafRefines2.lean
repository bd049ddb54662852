/-
  'MemRefines' (5): the walk.
-/
import Derived.Test.YgcsafRefines
namespace Go.Proofs.Ygcsaf
open Go.RowKit
set_option linter.unusedVariables false
set_option linter.unusedSimpArgs false
attribute [local go_sem ↓] Go.wp_at_zero Go.wp_at_succ

set_option maxRecDepth 100000 in
set_option maxHeartbeats 8000000 in
theorem memRefines_long (w : World) (p : Addr) (len cap : Nat) (hcap : len ≤ cap) (hcm : cap ≤ 9223372036854775807) (h64 : 64 < len) (hop : ∀ i, i < len → ∃ b off k a bb n f, OpAt w (some p) i b off k a bb n f) :
    Calls Safg.prog 5 #[.slice (some p) len cap] w fun e w' => e = .returned (.bool true) ∧ Below w.heap.size w w' := by
  have HOP : Hid (∀ i, i < 64 → ∃ b off k a bb n f, OpAt w (some p) i b off k a bb n f) := fun i hi => hop i (by omega)
  clear hop
  have t1 : decide ((64 : Int) < (len : Int)) = true := decide_eq_true (by omega)
  go_enter Safg.func5, Safg.ntmps5
  go_upto_region 5 with (refine wpList_alloc_agg rfl 47 rfl trace0 Safg.zero47 ?_; intro w1 T hT kT b1)
  have st1 := St.start kT hT
  have BB1 : Hid (Below w.heap.size w w1 ∧ Stx w.heap.size T w1) := ⟨b1, st1⟩
  clear st1 b1 kT
  go_loopw [15] (fun i wr => ∃ (j : Nat), j ≤ 64 ∧ i = .int .i64 j ∧ Below w.heap.size w wr ∧ Stx w.heap.size T wr) (fun i _ => 64 - (intOf i).toNat)
  case atStart => exact ⟨0, Nat.zero_le _, rfl, BB1.out.1, BB1.out.2⟩
  case round =>
    obtain ⟨j, hj, rfl, bel, stx⟩ := hrel
    have HSX : Hid (Below w.heap.size w wr ∧ Stx w.heap.size T wr) := ⟨bel, stx⟩
    by_cases hlt : j < 64
    · obtain ⟨b, off, k, a, bb, n, f, op⟩ := HOP.out j hlt
      have cells : wr.rangeAt b (off + j * 5) (opC k a bb n f) := fun i v hv => by
        rw [bel.cell (p := ⟨b, off + j * 5 + i, none⟩) op.lt]
        exact op.cells i v hv
      have hsr := bel.size
      have had := op.ad
      have HOPJ : Hid (OpAt w (some p) j b off k a bb n f) := op
      have hk := op.hk
      have hf := op.hf
      have hbb := op.hb
      obtain rfl := Option.some.inj had
      clear bel stx op
      go_upto_region 7 with (first | (refine wpList_index_slice rfl 37 _ _ rfl b off 64 cap j 5 rfl rfl hlt Safg.underlying37 Safg.sized49 ?_) | (refine wpList_load_mid rfl 49 _ rfl b (off + j * 5) rfl (opC k a bb n f) _ cells Safg.underlying49 rfl (size49c _ _ _ _ _) ?_) | (refine wpList_alloc_agg rfl 49 rfl _ Safg.zero49 ?_; intro w2 g5 hg5 k2 b2) | (refine wpList_store_agg rfl 49 _ _ rfl g5 rfl _ _ rfl k2 rfl (size49c _ _ _ _ _) (opC_one _ _ _ _ _) ?_; intro w3 k3 n3))
      have b3 : Below wr.heap.size wr w3 := b2.trans (n3.below hg5)
      have c50 := k3.get (j := 0) (v := .int .u8 (k : Int)) rfl
      by_cases h10 : 10 < k
      · have t10 : decide ((10 : Int) < (k : Int)) = true := decide_eq_true (by omega)
        have FIN : Hid (Below w.heap.size w w3 ∧ Stx w.heap.size T w3) := by
          obtain ⟨bl, c1, c2, c3, c4, c5, c6, c7, c8, c9, st⟩ := HSX.out
          exact ⟨bl.trans (b3.mono hsr), c1, c2, c3, c4, c5, c6, c7, c8, c9, st.below b3⟩
        go_wp2
        go_roundw
        case rel => exact ⟨j + 1, by omega, by go_num, FIN.out.1, FIN.out.2⟩
        case measure => simp [intOf]; omega
      · have t10 : decide ((10 : Int) < (k : Int)) = false := decide_eq_false (by omega)
        have c54 := k3.get (j := 4) (v := .int .u8 (f : Int)) rfl
        have HFI := filled_any w3 40 f (by omega) hf
        go_upto_region 9 with (go_at_call 17; refine HFI.mono ?_; rintro e w4 ⟨gs, rfl, hgs, os, b4'⟩)
        clear HFI
        have b4 : Below wr.heap.size wr w4 := b3.trans (b4'.mono b3.size)
        have k4 := k3.below b4' k3.lt
        have hs3 := b3.size
        obtain ⟨ok, sz, W, rl, hWl, HPA⟩ := play_step HSX.out.2 hsr b4 k4 hg5 os (by omega) (by omega) HOPJ.out.ha HOPJ.out.hb HOPJ.out.hn hf
        have c52 := k4.get (j := 2) (v := .int .u32 (bb : Int)) rfl
        have hs4 := b4.size
        clear c50 c54
        go_upto_region 10 with (first | (refine wpList_load_agg rfl 49 _ rfl g5 rfl _ k4 _ Safg.underlying49 (size49c _ _ _ _ _) ?_) | (go_at_call 18; refine HPA.mono ?_; rintro e w5 ⟨ra, rfl, b5, k5, hnext⟩) | (refine wpList_alloc_agg rfl 52 rfl ans0 Safg.zero52 ?_; intro w6 g7 hg7 k6 b6) | (refine wpList_store_agg rfl 52 _ _ rfl g7 rfl _ _ rfl k6 (ans0_len hWl) Safg.size52a ansC_one ?_; intro w7 k7 n7))
        have b7 : Below w5.heap.size w5 w7 := b6.trans (n7.below hg7)
        have k57 := k5.below b7 k5.lt
        have bd7 : Below w5.heap.size w5 w7.drew := b7.trans ((Same.drew w7).below _)
        have HPM := hnext w7.drew bd7 g7 hg7 ((Same.drew w7).blk k7)
        have HB7 : Hid (Below w.heap.size w w7.drew) := by
          refine ((HSX.out.1.trans (b4.mono hsr)).trans b5).trans (bd7.mono ?_)
          have := b5.size
          omega
        clear hnext HPA c52 k6 b6 n7
        have S0 : Hid (w7.drew.rangeAt g5 0 (opC k a bb n f) ∧ w7.drew.rangeAt g7 0 (ansC ok sz W (.slice ra rl rl))) := ⟨((Same.drew w7).blk k57).cell, ((Same.drew w7).blk k7).cell⟩
        refine wp_region_held_drew (S := fun w' => w'.rangeAt g5 0 (opC k a bb n f) ∧ w'.rangeAt g7 0 (ansC ok sz W (.slice ra rl rl))) (by kernel_rfl) S0.out (fun hHeld => ?_)
        refine wpAnyH_take' (i := 0) (d := 32) (v := .agg (opC k a bb n f).toArray) rfl rfl (by kernel_rfl) (by kernel_rfl) (by kernel_rfl) (fun _ _ _ h => h) (yieldsIf_load_mid (by rfl) 49 _ rfl g5 0 rfl (opC k a bb n f) _ (fun w h => h.1) Safg.underlying49 rfl (size49c _ _ _ _ _)) hHeld ?_
        simp only [Act.put, List.setIfInBounds_toArray, List.set_cons_zero, List.set_cons_succ]
        refine wpAnyH_take' (i := 1) (d := 33) (v := .agg (ansC ok sz W (.slice ra rl rl)).toArray) rfl rfl (by kernel_rfl) (by kernel_rfl) (by kernel_rfl) (fun _ _ _ h => h) (yieldsIf_load_mid (by rfl) 52 _ rfl g7 0 rfl (ansC ok sz W (.slice ra rl rl)) _ (fun w h => h.2) Safg.underlying52 rfl (size52c hWl)) hHeld ?_
        simp only [Act.put, List.setIfInBounds_toArray, List.set_cons_zero, List.set_cons_succ]
        refine wpAnyH_take' (i := 2) (d := 34) (v := .pointer (some ⟨T, 10, none⟩)) rfl rfl (by kernel_rfl) (by kernel_rfl) (by kernel_rfl) (fun _ _ _ h => h) (Or.inl ⟨by rfl, fun w hSw => ?_⟩) hHeld ?_
        · go_simp
        simp only [Act.put, List.setIfInBounds_toArray, List.set_cons_zero, List.set_cons_succ]
        refine wpAnyH_take' (i := 3) (d := 35) (v := .agg (opC k a bb n f).toArray) rfl rfl (by kernel_rfl) (by kernel_rfl) (by kernel_rfl) (fun _ _ _ h => h) (yieldsIf_load_mid (by rfl) 49 _ rfl g5 0 rfl (opC k a bb n f) _ (fun w h => h.1) Safg.underlying49 rfl (size49c _ _ _ _ _)) hHeld ?_
        simp only [Act.put, List.setIfInBounds_toArray, List.set_cons_zero, List.set_cons_succ]
        refine wpAnyH_take' (i := 4) (d := 36) (v := .slice (some ⟨gs, 0, none⟩) 40 40) rfl rfl (by kernel_rfl) (by kernel_rfl) (by kernel_rfl) (fun _ _ _ h => h) (Or.inl ⟨by rfl, fun w hSw => ?_⟩) hHeld ?_
        · go_simp
        simp only [Act.put, List.setIfInBounds_toArray, List.set_cons_zero, List.set_cons_succ]
        refine wpAnyH_take' (i := 5) (d := 37) (v := .pointer (some ⟨g5, 2, none⟩)) rfl rfl (by kernel_rfl) (by kernel_rfl) (by kernel_rfl) (fun _ _ _ h => h) (Or.inl ⟨by rfl, fun w hSw => ?_⟩) hHeld ?_
        · go_simp
        simp only [Act.put, List.setIfInBounds_toArray, List.set_cons_zero, List.set_cons_succ]
        refine wpAnyH_take' (i := 6) (d := 38) (v := .int .u32 (bb : Int)) rfl rfl (by kernel_rfl) (by kernel_rfl) (by kernel_rfl) (fun _ _ _ h => h) (Or.inl ⟨by rfl, fun w hSw => ?_⟩) hHeld ?_
        · have hq := hSw.1 2 (.int .u32 (bb : Int)) rfl
          rw [Nat.zero_add] at hq
          clear hSw
          go_simp
        simp only [Act.put, List.setIfInBounds_toArray, List.set_cons_zero, List.set_cons_succ]
        refine wpAnyH_take' (i := 7) (d := 39) (v := .int .u64 (bb : Int)) rfl rfl (by kernel_rfl) (by kernel_rfl) (by kernel_rfl) (fun _ _ _ h => h) (Or.inl ⟨by rfl, fun w hSw => ?_⟩) hHeld ?_
        · go_simp
          rw [IntKind.wrap_u64]
          omega
        simp only [Act.put, List.setIfInBounds_toArray, List.set_cons_zero, List.set_cons_succ]
        refine wpAnyH_ready (rs := [8]) (by kernel_rfl) (by simp) ?_
        refine AllReadyH.cons rfl (fun K hK => ?_) AllReadyH.nil
        rw [if_pos (by rfl)]
        go_wp2_with (go_at_call 20; refine HPM.mono ?_; rintro e w8 ⟨rb, rfl, b8, k58, k78, HJ⟩)
        refine hK.out _ _ ⟨k58.cell, k78.cell⟩ (fun hHeld8 => ?_)
        clear hK K HPM
        refine wpAnyH_ready (rs := [9]) (by kernel_rfl) (by simp) ?_
        refine AllReadyH.cons rfl (fun K hK => ?_) AllReadyH.nil
        rw [if_pos (by rfl)]
        go_wp2_with (go_at_call 19; refine HJ.mono ?_; rintro e w9 ⟨rfl, b9, k59, k79, stx9⟩)
        refine hK.out _ _ ⟨k59.cell, k79.cell⟩ (fun hHeld9 => ?_)
        clear hK K HJ
        refine wpAnyH_take' (i := 10) (d := 42) (v := .bool false) rfl rfl (by kernel_rfl) (by kernel_rfl) (by kernel_rfl) (fun _ _ _ h => h) (Or.inl ⟨by rfl, fun w hSw => ?_⟩) hHeld9 ?_
        · go_simp
        simp only [Act.put, List.setIfInBounds_toArray, List.set_cons_zero, List.set_cons_succ]
        refine wpAnyH_done (by kernel_rfl) ?_ _
        have FIN : Hid (Below w.heap.size w w9 ∧ Stx w.heap.size T w9) := ⟨(HB7.out.trans b8).trans b9, stx9⟩
        clear hHeld hHeld8 hHeld9 S0 k58 k78 k59 k79 stx9
        go_wp2
        go_roundw
        case rel => exact ⟨j + 1, by omega, by go_num, FIN.out.1, FIN.out.2⟩
        case measure => simp [intOf]; omega
    · clear bel stx
      go_wp2
      go_ret
      exact ⟨rfl, HSX.out.1⟩

set_option maxRecDepth 100000 in
set_option maxHeartbeats 8000000 in
theorem memRefines_short (w : World) (ad : Option Addr) (len cap : Nat) (hcap : len ≤ cap) (hcm : cap ≤ 9223372036854775807) (h64 : len ≤ 64) (hop : ∀ i, i < len → ∃ b off k a bb n f, OpAt w ad i b off k a bb n f) :
    Calls Safg.prog 5 #[.slice ad len cap] w fun e w' => e = .returned (.bool true) ∧ Below w.heap.size w w' := by
  have HOP : Hid (∀ i, i < len → ∃ b off k a bb n f, OpAt w ad i b off k a bb n f) := hop
  clear hop
  have t1 : decide ((64 : Int) < (len : Int)) = false := decide_eq_false (by omega)
  go_enter Safg.func5, Safg.ntmps5
  go_upto_region 5 with (refine wpList_alloc_agg rfl 47 rfl trace0 Safg.zero47 ?_; intro w1 T hT kT b1)
  have st1 := St.start kT hT
  have BB1 : Hid (Below w.heap.size w w1 ∧ Stx w.heap.size T w1) := ⟨b1, st1⟩
  clear st1 b1 kT
  go_loopw [15] (fun i wr => ∃ (j : Nat), j ≤ len ∧ i = .int .i64 j ∧ Below w.heap.size w wr ∧ Stx w.heap.size T wr) (fun i _ => len - (intOf i).toNat)
  case atStart => exact ⟨0, Nat.zero_le _, rfl, BB1.out.1, BB1.out.2⟩
  case round =>
    obtain ⟨j, hj, rfl, bel, stx⟩ := hrel
    have HSX : Hid (Below w.heap.size w wr ∧ Stx w.heap.size T wr) := ⟨bel, stx⟩
    by_cases hlt : j < len
    · obtain ⟨b, off, k, a, bb, n, f, op⟩ := HOP.out j hlt
      have cells : wr.rangeAt b (off + j * 5) (opC k a bb n f) := fun i v hv => by
        rw [bel.cell (p := ⟨b, off + j * 5 + i, none⟩) op.lt]
        exact op.cells i v hv
      have hsr := bel.size
      have had := op.ad
      have HOPJ : Hid (OpAt w ad j b off k a bb n f) := op
      have hk := op.hk
      have hf := op.hf
      have hbb := op.hb
      subst had
      clear bel stx op
      go_upto_region 7 with (first | (refine wpList_index_slice rfl 37 _ _ rfl b off len cap j 5 rfl rfl hlt Safg.underlying37 Safg.sized49 ?_) | (refine wpList_load_mid rfl 49 _ rfl b (off + j * 5) rfl (opC k a bb n f) _ cells Safg.underlying49 rfl (size49c _ _ _ _ _) ?_) | (refine wpList_alloc_agg rfl 49 rfl _ Safg.zero49 ?_; intro w2 g5 hg5 k2 b2) | (refine wpList_store_agg rfl 49 _ _ rfl g5 rfl _ _ rfl k2 rfl (size49c _ _ _ _ _) (opC_one _ _ _ _ _) ?_; intro w3 k3 n3))
      have b3 : Below wr.heap.size wr w3 := b2.trans (n3.below hg5)
      have c50 := k3.get (j := 0) (v := .int .u8 (k : Int)) rfl
      by_cases h10 : 10 < k
      · have t10 : decide ((10 : Int) < (k : Int)) = true := decide_eq_true (by omega)
        have FIN : Hid (Below w.heap.size w w3 ∧ Stx w.heap.size T w3) := by
          obtain ⟨bl, c1, c2, c3, c4, c5, c6, c7, c8, c9, st⟩ := HSX.out
          exact ⟨bl.trans (b3.mono hsr), c1, c2, c3, c4, c5, c6, c7, c8, c9, st.below b3⟩
        go_wp2
        go_roundw
        case rel => exact ⟨j + 1, by omega, by go_num, FIN.out.1, FIN.out.2⟩
        case measure => simp [intOf]; omega
      · have t10 : decide ((10 : Int) < (k : Int)) = false := decide_eq_false (by omega)
        have c54 := k3.get (j := 4) (v := .int .u8 (f : Int)) rfl
        have HFI := filled_any w3 40 f (by omega) hf
        go_upto_region 9 with (go_at_call 17; refine HFI.mono ?_; rintro e w4 ⟨gs, rfl, hgs, os, b4'⟩)
        clear HFI
        have b4 : Below wr.heap.size wr w4 := b3.trans (b4'.mono b3.size)
        have k4 := k3.below b4' k3.lt
        have hs3 := b3.size
        obtain ⟨ok, sz, W, rl, hWl, HPA⟩ := play_step HSX.out.2 hsr b4 k4 hg5 os (by omega) (by omega) HOPJ.out.ha HOPJ.out.hb HOPJ.out.hn hf
        have c52 := k4.get (j := 2) (v := .int .u32 (bb : Int)) rfl
        have hs4 := b4.size
        clear c50 c54
        go_upto_region 10 with (first | (refine wpList_load_agg rfl 49 _ rfl g5 rfl _ k4 _ Safg.underlying49 (size49c _ _ _ _ _) ?_) | (go_at_call 18; refine HPA.mono ?_; rintro e w5 ⟨ra, rfl, b5, k5, hnext⟩) | (refine wpList_alloc_agg rfl 52 rfl ans0 Safg.zero52 ?_; intro w6 g7 hg7 k6 b6) | (refine wpList_store_agg rfl 52 _ _ rfl g7 rfl _ _ rfl k6 (ans0_len hWl) Safg.size52a ansC_one ?_; intro w7 k7 n7))
        have b7 : Below w5.heap.size w5 w7 := b6.trans (n7.below hg7)
        have k57 := k5.below b7 k5.lt
        have bd7 : Below w5.heap.size w5 w7.drew := b7.trans ((Same.drew w7).below _)
        have HPM := hnext w7.drew bd7 g7 hg7 ((Same.drew w7).blk k7)
        have HB7 : Hid (Below w.heap.size w w7.drew) := by
          refine ((HSX.out.1.trans (b4.mono hsr)).trans b5).trans (bd7.mono ?_)
          have := b5.size
          omega
        clear hnext HPA c52 k6 b6 n7
        have S0 : Hid (w7.drew.rangeAt g5 0 (opC k a bb n f) ∧ w7.drew.rangeAt g7 0 (ansC ok sz W (.slice ra rl rl))) := ⟨((Same.drew w7).blk k57).cell, ((Same.drew w7).blk k7).cell⟩
        refine wp_region_held_drew (S := fun w' => w'.rangeAt g5 0 (opC k a bb n f) ∧ w'.rangeAt g7 0 (ansC ok sz W (.slice ra rl rl))) (by kernel_rfl) S0.out (fun hHeld => ?_)
        refine wpAnyH_take' (i := 0) (d := 32) (v := .agg (opC k a bb n f).toArray) rfl rfl (by kernel_rfl) (by kernel_rfl) (by kernel_rfl) (fun _ _ _ h => h) (yieldsIf_load_mid (by rfl) 49 _ rfl g5 0 rfl (opC k a bb n f) _ (fun w h => h.1) Safg.underlying49 rfl (size49c _ _ _ _ _)) hHeld ?_
        simp only [Act.put, List.setIfInBounds_toArray, List.set_cons_zero, List.set_cons_succ]
        refine wpAnyH_take' (i := 1) (d := 33) (v := .agg (ansC ok sz W (.slice ra rl rl)).toArray) rfl rfl (by kernel_rfl) (by kernel_rfl) (by kernel_rfl) (fun _ _ _ h => h) (yieldsIf_load_mid (by rfl) 52 _ rfl g7 0 rfl (ansC ok sz W (.slice ra rl rl)) _ (fun w h => h.2) Safg.underlying52 rfl (size52c hWl)) hHeld ?_
        simp only [Act.put, List.setIfInBounds_toArray, List.set_cons_zero, List.set_cons_succ]
        refine wpAnyH_take' (i := 2) (d := 34) (v := .pointer (some ⟨T, 10, none⟩)) rfl rfl (by kernel_rfl) (by kernel_rfl) (by kernel_rfl) (fun _ _ _ h => h) (Or.inl ⟨by rfl, fun w hSw => ?_⟩) hHeld ?_
        · go_simp
        simp only [Act.put, List.setIfInBounds_toArray, List.set_cons_zero, List.set_cons_succ]
        refine wpAnyH_take' (i := 3) (d := 35) (v := .agg (opC k a bb n f).toArray) rfl rfl (by kernel_rfl) (by kernel_rfl) (by kernel_rfl) (fun _ _ _ h => h) (yieldsIf_load_mid (by rfl) 49 _ rfl g5 0 rfl (opC k a bb n f) _ (fun w h => h.1) Safg.underlying49 rfl (size49c _ _ _ _ _)) hHeld ?_
        simp only [Act.put, List.setIfInBounds_toArray, List.set_cons_zero, List.set_cons_succ]
        refine wpAnyH_take' (i := 4) (d := 36) (v := .slice (some ⟨gs, 0, none⟩) 40 40) rfl rfl (by kernel_rfl) (by kernel_rfl) (by kernel_rfl) (fun _ _ _ h => h) (Or.inl ⟨by rfl, fun w hSw => ?_⟩) hHeld ?_
        · go_simp
        simp only [Act.put, List.setIfInBounds_toArray, List.set_cons_zero, List.set_cons_succ]
        refine wpAnyH_take' (i := 5) (d := 37) (v := .pointer (some ⟨g5, 2, none⟩)) rfl rfl (by kernel_rfl) (by kernel_rfl) (by kernel_rfl) (fun _ _ _ h => h) (Or.inl ⟨by rfl, fun w hSw => ?_⟩) hHeld ?_
        · go_simp
        simp only [Act.put, List.setIfInBounds_toArray, List.set_cons_zero, List.set_cons_succ]
        refine wpAnyH_take' (i := 6) (d := 38) (v := .int .u32 (bb : Int)) rfl rfl (by kernel_rfl) (by kernel_rfl) (by kernel_rfl) (fun _ _ _ h => h) (Or.inl ⟨by rfl, fun w hSw => ?_⟩) hHeld ?_
        · have hq := hSw.1 2 (.int .u32 (bb : Int)) rfl
          rw [Nat.zero_add] at hq
          clear hSw
          go_simp
        simp only [Act.put, List.setIfInBounds_toArray, List.set_cons_zero, List.set_cons_succ]
        refine wpAnyH_take' (i := 7) (d := 39) (v := .int .u64 (bb : Int)) rfl rfl (by kernel_rfl) (by kernel_rfl) (by kernel_rfl) (fun _ _ _ h => h) (Or.inl ⟨by rfl, fun w hSw => ?_⟩) hHeld ?_
        · go_simp
          rw [IntKind.wrap_u64]
          omega
        simp only [Act.put, List.setIfInBounds_toArray, List.set_cons_zero, List.set_cons_succ]
        refine wpAnyH_ready (rs := [8]) (by kernel_rfl) (by simp) ?_
        refine AllReadyH.cons rfl (fun K hK => ?_) AllReadyH.nil
        rw [if_pos (by rfl)]
        go_wp2_with (go_at_call 20; refine HPM.mono ?_; rintro e w8 ⟨rb, rfl, b8, k58, k78, HJ⟩)
        refine hK.out _ _ ⟨k58.cell, k78.cell⟩ (fun hHeld8 => ?_)
        clear hK K HPM
        refine wpAnyH_ready (rs := [9]) (by kernel_rfl) (by simp) ?_
        refine AllReadyH.cons rfl (fun K hK => ?_) AllReadyH.nil
        rw [if_pos (by rfl)]
        go_wp2_with (go_at_call 19; refine HJ.mono ?_; rintro e w9 ⟨rfl, b9, k59, k79, stx9⟩)
        refine hK.out _ _ ⟨k59.cell, k79.cell⟩ (fun hHeld9 => ?_)
        clear hK K HJ
        refine wpAnyH_take' (i := 10) (d := 42) (v := .bool false) rfl rfl (by kernel_rfl) (by kernel_rfl) (by kernel_rfl) (fun _ _ _ h => h) (Or.inl ⟨by rfl, fun w hSw => ?_⟩) hHeld9 ?_
        · go_simp
        simp only [Act.put, List.setIfInBounds_toArray, List.set_cons_zero, List.set_cons_succ]
        refine wpAnyH_done (by kernel_rfl) ?_ _
        have FIN : Hid (Below w.heap.size w w9 ∧ Stx w.heap.size T w9) := ⟨(HB7.out.trans b8).trans b9, stx9⟩
        clear hHeld hHeld8 hHeld9 S0 k58 k78 k59 k79 stx9
        go_wp2
        go_roundw
        case rel => exact ⟨j + 1, by omega, by go_num, FIN.out.1, FIN.out.2⟩
        case measure => simp [intOf]; omega
    · clear bel stx
      go_wp2
      go_ret
      exact ⟨rfl, HSX.out.1⟩

theorem memRefines_true (w : World) (ad : Option Addr) (len cap : Nat) (hcap : len ≤ cap) (hcm : cap ≤ 9223372036854775807) (hop : ∀ i, i < len → ∃ b off k a bb n f, OpAt w ad i b off k a bb n f) :
    Calls Safg.prog 5 #[.slice ad len cap] w fun e w' => e = .returned (.bool true) ∧ Below w.heap.size w w' := by
  by_cases h64 : 64 < len
  · cases ad with
    | none =>
      obtain ⟨b, off, k, a, bb, n, f, op⟩ := hop 0 (by omega)
      have := op.ad
      cases this
    | some p => exact memRefines_long w p len cap hcap hcm h64 hop
  · exact memRefines_short w ad len cap hcap hcm (by omega) hop
end Go.Proofs.Ygcsaf
