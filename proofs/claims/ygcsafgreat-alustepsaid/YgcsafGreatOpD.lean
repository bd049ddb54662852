/-
  OpCompare (76).
-/
import Derived.Test.YgcsafGreatAlu0
namespace Go.Proofs.YgcsafGreat
open Go.RowKit
set_option linter.unusedVariables false
set_option linter.unusedSimpArgs false

set_option maxRecDepth 100000 in
set_option maxHeartbeats 4000000 in
theorem opx_16 (w : World) (gm gv gc pc gas : Nat) (ws : Nat → Wd4) (C Ls Lc : List Nat) (h : Run w gm gv gc pc 3 gas ws C Ls Lc) (hpc : pc < C.length) (hC : C.length ≤ 256) (ho : C.getD pc 0 = 16) :
    Calls Safg.prog 76 #[.pointer (some ⟨gm, 0, none⟩)] w (AluPost 16 w gm gv gc pc gas ws C Ls Lc) := by
  have HR := running_any w gm gv gc pc 3 gas ws C Ls Lc h
  obtain ⟨a0, a1, a2⟩ : (ws 0).Ok ∧ (ws 1).Ok ∧ (ws 2).Ok := by obtain ⟨f, m, mf⟩ := h.m; exact ⟨mf.ok 0 (by omega), mf.ok 1 (by omega), mf.ok 2 (by omega)⟩
  go_enter Safg.func76, Safg.ntmps76
  go_upto_region 2 with (go_at_call 25; refine HR.mono ?_; rintro e w1 ⟨rfl, b1⟩)
  have h1 := h.below b1
  have T1 := Turn.of_below b1 (Nat.le_refl _) [gm]
  have HA : Calls Safg.prog 199 #[.pointer (some ⟨gm, 0, none⟩), .pointer (some ⟨gm, 1803, none⟩), .int .i64 0] w1 fun e w' => e = .returned (ws 2).v ∧ Below w1.heap.size w1 w' := arg_any w1 gm gv gc pc 3 gas 0 ws C Ls Lc h1 (by omega) (by omega)
  clear h HR b1
  go_upto_region 3 with (first | (go_at_call 199; refine HA.mono ?_; rintro e w2 ⟨rfl, b2⟩) | (refine wpList_alloc_agg rfl 65 rfl _ Safg.zero65 ?_; intro w3 g3 hg3 k3 b3) | (refine wpList_store_agg rfl 65 (.tmp 3) _ rfl g3 rfl _ (ws 2).cells rfl k3 rfl Safg.size65 (Wd4.one _) ?_; intro w4 k4 n4))
  have B4 : Below w1.heap.size w1 w4 := (b2.trans (b3.mono b2.size)).trans (n4.below (Nat.le_trans b2.size hg3))
  have h4 := h1.below B4
  have T4 := T1.trans (Turn.of_below B4 (Nat.le_refl _) _)
  have HA : Calls Safg.prog 199 #[.pointer (some ⟨gm, 0, none⟩), .pointer (some ⟨gm, 1803, none⟩), .int .i64 1] w4 fun e w' => e = .returned (ws 1).v ∧ Below w4.heap.size w4 w' := arg_any w4 gm gv gc pc 3 gas 1 ws C Ls Lc h4 (by omega) (by omega)
  clear h1 T1 b2 b3 n4 B4 k3
  go_upto_region 4 with (first | (go_at_call 199; refine HA.mono ?_; rintro e w5 ⟨rfl, b5⟩) | (refine wpList_alloc_agg rfl 65 rfl _ Safg.zero65 ?_; intro w6 g4 hg4 k6 b6) | (refine wpList_store_agg rfl 65 (.tmp 4) _ rfl g4 rfl _ (ws 1).cells rfl k6 rfl Safg.size65 (Wd4.one _) ?_; intro w7 k7 n7))
  have B7 : Below w4.heap.size w4 w7 := (b5.trans (b6.mono b5.size)).trans (n7.below (Nat.le_trans b5.size hg4))
  have h7 := h4.below B7
  have T7 := T4.trans (Turn.of_below B7 (Nat.le_refl _) _)
  have k3 := k4.below B7 k4.lt
  clear h4 T4 b5 b6 n7 B7 k4 k6 HA
  have HO : Calls Safg.prog 21 #[.pointer (some ⟨gm, 0, none⟩)] w7 fun e w' => e = .returned (.int .u8 16) ∧ Below w7.heap.size w7 w' := (opcode_any w7 gm gv gc pc 3 gas ws C Ls Lc h7 hpc hC).mono fun e w' ⟨h1, h2⟩ => ⟨by rw [h1, ho]; rfl, h2⟩
  go_upto_region 7 with (go_at_call 21; refine HO.mono ?_; rintro e w9 ⟨rfl, b9⟩)
  have h9 := h7.below b9
  have T9 := T7.trans (Turn.of_below b9 (Nat.le_refl _) _)
  have k3 := k3.below b9 k3.lt
  have k7 := k7.below b9 k7.lt
  clear h7 T7 b9 HO
  obtain ⟨t, ht⟩ : ∃ t : Bool, decide ((ws 2).val < (ws 1).val) = t := ⟨_, rfl⟩
  have HT : Hid (decide ((ws 2).val < (ws 1).val) = t) := ht
  have HB : Calls Safg.prog 164 #[(ws 2).v, (ws 1).v] w9 fun e w' => e = .returned (.bool t) ∧ Below w9.heap.size w9 w' := by rw [← ht]; exact uLt_any w9 (ws 2) (ws 1) a2 a1
  clear ht
  go_upto_region 20 with (first | (refine wpList_load_mid rfl 65 (.tmp 3) rfl g3 0 rfl _ _ k3.cell Safg.under65 rfl Safg.size65 ?_) | (refine wpList_load_mid rfl 65 (.tmp 4) rfl g4 0 rfl _ _ k7.cell Safg.under65 rfl Safg.size65 ?_) | (go_at_call 164; refine HB.mono ?_; rintro e w10 ⟨rfl, b10⟩))
  have h10 := h9.below b10
  have T10 := T9.trans (Turn.of_below b10 (Nat.le_refl _) _)
  go_wp2_with (first | (go_at_call 218; refine (flag_any _ t).mono ?_; rintro e w11 ⟨rfl, b11⟩) | (go_at_call 195; refine (settle_any w11 gm gv gc pc 3 gas 2 1 ws C Ls Lc (flagW t) (flagW_ok t) (h10.below b11) (by omega) (by omega) (by omega) (by omega)).mono ?_; rintro e w12 ⟨rfl, h12, T12⟩))
  go_end0
  exact ⟨flagW t, flagW_ok t, by rw [flagW_val, ← HT.out]; rfl, rfl, h12, (T10.trans (Turn.of_below b11 (Nat.le_refl _) _)).trans T12⟩
set_option maxRecDepth 100000 in
set_option maxHeartbeats 4000000 in
theorem opx_17 (w : World) (gm gv gc pc gas : Nat) (ws : Nat → Wd4) (C Ls Lc : List Nat) (h : Run w gm gv gc pc 3 gas ws C Ls Lc) (hpc : pc < C.length) (hC : C.length ≤ 256) (ho : C.getD pc 0 = 17) :
    Calls Safg.prog 76 #[.pointer (some ⟨gm, 0, none⟩)] w (AluPost 17 w gm gv gc pc gas ws C Ls Lc) := by
  have HR := running_any w gm gv gc pc 3 gas ws C Ls Lc h
  obtain ⟨a0, a1, a2⟩ : (ws 0).Ok ∧ (ws 1).Ok ∧ (ws 2).Ok := by obtain ⟨f, m, mf⟩ := h.m; exact ⟨mf.ok 0 (by omega), mf.ok 1 (by omega), mf.ok 2 (by omega)⟩
  go_enter Safg.func76, Safg.ntmps76
  go_upto_region 2 with (go_at_call 25; refine HR.mono ?_; rintro e w1 ⟨rfl, b1⟩)
  have h1 := h.below b1
  have T1 := Turn.of_below b1 (Nat.le_refl _) [gm]
  have HA : Calls Safg.prog 199 #[.pointer (some ⟨gm, 0, none⟩), .pointer (some ⟨gm, 1803, none⟩), .int .i64 0] w1 fun e w' => e = .returned (ws 2).v ∧ Below w1.heap.size w1 w' := arg_any w1 gm gv gc pc 3 gas 0 ws C Ls Lc h1 (by omega) (by omega)
  clear h HR b1
  go_upto_region 3 with (first | (go_at_call 199; refine HA.mono ?_; rintro e w2 ⟨rfl, b2⟩) | (refine wpList_alloc_agg rfl 65 rfl _ Safg.zero65 ?_; intro w3 g3 hg3 k3 b3) | (refine wpList_store_agg rfl 65 (.tmp 3) _ rfl g3 rfl _ (ws 2).cells rfl k3 rfl Safg.size65 (Wd4.one _) ?_; intro w4 k4 n4))
  have B4 : Below w1.heap.size w1 w4 := (b2.trans (b3.mono b2.size)).trans (n4.below (Nat.le_trans b2.size hg3))
  have h4 := h1.below B4
  have T4 := T1.trans (Turn.of_below B4 (Nat.le_refl _) _)
  have HA : Calls Safg.prog 199 #[.pointer (some ⟨gm, 0, none⟩), .pointer (some ⟨gm, 1803, none⟩), .int .i64 1] w4 fun e w' => e = .returned (ws 1).v ∧ Below w4.heap.size w4 w' := arg_any w4 gm gv gc pc 3 gas 1 ws C Ls Lc h4 (by omega) (by omega)
  clear h1 T1 b2 b3 n4 B4 k3
  go_upto_region 4 with (first | (go_at_call 199; refine HA.mono ?_; rintro e w5 ⟨rfl, b5⟩) | (refine wpList_alloc_agg rfl 65 rfl _ Safg.zero65 ?_; intro w6 g4 hg4 k6 b6) | (refine wpList_store_agg rfl 65 (.tmp 4) _ rfl g4 rfl _ (ws 1).cells rfl k6 rfl Safg.size65 (Wd4.one _) ?_; intro w7 k7 n7))
  have B7 : Below w4.heap.size w4 w7 := (b5.trans (b6.mono b5.size)).trans (n7.below (Nat.le_trans b5.size hg4))
  have h7 := h4.below B7
  have T7 := T4.trans (Turn.of_below B7 (Nat.le_refl _) _)
  have k3 := k4.below B7 k4.lt
  clear h4 T4 b5 b6 n7 B7 k4 k6 HA
  have HO : Calls Safg.prog 21 #[.pointer (some ⟨gm, 0, none⟩)] w7 fun e w' => e = .returned (.int .u8 17) ∧ Below w7.heap.size w7 w' := (opcode_any w7 gm gv gc pc 3 gas ws C Ls Lc h7 hpc hC).mono fun e w' ⟨h1, h2⟩ => ⟨by rw [h1, ho]; rfl, h2⟩
  go_upto_region 7 with (go_at_call 21; refine HO.mono ?_; rintro e w9 ⟨rfl, b9⟩)
  have h9 := h7.below b9
  have T9 := T7.trans (Turn.of_below b9 (Nat.le_refl _) _)
  have k3 := k3.below b9 k3.lt
  have k7 := k7.below b9 k7.lt
  clear h7 T7 b9 HO
  obtain ⟨t, ht⟩ : ∃ t : Bool, decide ((ws 1).val < (ws 2).val) = t := ⟨_, rfl⟩
  have HT : Hid (decide ((ws 1).val < (ws 2).val) = t) := ht
  have HB : Calls Safg.prog 165 #[(ws 2).v, (ws 1).v] w9 fun e w' => e = .returned (.bool t) ∧ Below w9.heap.size w9 w' := by rw [← ht]; exact uGt_any w9 (ws 2) (ws 1) a2 a1
  clear ht
  go_upto_region 20 with (first | (refine wpList_load_mid rfl 65 (.tmp 3) rfl g3 0 rfl _ _ k3.cell Safg.under65 rfl Safg.size65 ?_) | (refine wpList_load_mid rfl 65 (.tmp 4) rfl g4 0 rfl _ _ k7.cell Safg.under65 rfl Safg.size65 ?_) | (go_at_call 165; refine HB.mono ?_; rintro e w10 ⟨rfl, b10⟩))
  have h10 := h9.below b10
  have T10 := T9.trans (Turn.of_below b10 (Nat.le_refl _) _)
  go_wp2_with (first | (go_at_call 218; refine (flag_any _ t).mono ?_; rintro e w11 ⟨rfl, b11⟩) | (go_at_call 195; refine (settle_any w11 gm gv gc pc 3 gas 2 1 ws C Ls Lc (flagW t) (flagW_ok t) (h10.below b11) (by omega) (by omega) (by omega) (by omega)).mono ?_; rintro e w12 ⟨rfl, h12, T12⟩))
  go_end0
  exact ⟨flagW t, flagW_ok t, by rw [flagW_val, ← HT.out]; rfl, rfl, h12, (T10.trans (Turn.of_below b11 (Nat.le_refl _) _)).trans T12⟩
set_option maxRecDepth 100000 in
set_option maxHeartbeats 4000000 in
theorem opx_18 (w : World) (gm gv gc pc gas : Nat) (ws : Nat → Wd4) (C Ls Lc : List Nat) (h : Run w gm gv gc pc 3 gas ws C Ls Lc) (hpc : pc < C.length) (hC : C.length ≤ 256) (ho : C.getD pc 0 = 18) :
    Calls Safg.prog 76 #[.pointer (some ⟨gm, 0, none⟩)] w (AluPost 18 w gm gv gc pc gas ws C Ls Lc) := by
  have HR := running_any w gm gv gc pc 3 gas ws C Ls Lc h
  obtain ⟨a0, a1, a2⟩ : (ws 0).Ok ∧ (ws 1).Ok ∧ (ws 2).Ok := by obtain ⟨f, m, mf⟩ := h.m; exact ⟨mf.ok 0 (by omega), mf.ok 1 (by omega), mf.ok 2 (by omega)⟩
  go_enter Safg.func76, Safg.ntmps76
  go_upto_region 2 with (go_at_call 25; refine HR.mono ?_; rintro e w1 ⟨rfl, b1⟩)
  have h1 := h.below b1
  have T1 := Turn.of_below b1 (Nat.le_refl _) [gm]
  have HA : Calls Safg.prog 199 #[.pointer (some ⟨gm, 0, none⟩), .pointer (some ⟨gm, 1803, none⟩), .int .i64 0] w1 fun e w' => e = .returned (ws 2).v ∧ Below w1.heap.size w1 w' := arg_any w1 gm gv gc pc 3 gas 0 ws C Ls Lc h1 (by omega) (by omega)
  clear h HR b1
  go_upto_region 3 with (first | (go_at_call 199; refine HA.mono ?_; rintro e w2 ⟨rfl, b2⟩) | (refine wpList_alloc_agg rfl 65 rfl _ Safg.zero65 ?_; intro w3 g3 hg3 k3 b3) | (refine wpList_store_agg rfl 65 (.tmp 3) _ rfl g3 rfl _ (ws 2).cells rfl k3 rfl Safg.size65 (Wd4.one _) ?_; intro w4 k4 n4))
  have B4 : Below w1.heap.size w1 w4 := (b2.trans (b3.mono b2.size)).trans (n4.below (Nat.le_trans b2.size hg3))
  have h4 := h1.below B4
  have T4 := T1.trans (Turn.of_below B4 (Nat.le_refl _) _)
  have HA : Calls Safg.prog 199 #[.pointer (some ⟨gm, 0, none⟩), .pointer (some ⟨gm, 1803, none⟩), .int .i64 1] w4 fun e w' => e = .returned (ws 1).v ∧ Below w4.heap.size w4 w' := arg_any w4 gm gv gc pc 3 gas 1 ws C Ls Lc h4 (by omega) (by omega)
  clear h1 T1 b2 b3 n4 B4 k3
  go_upto_region 4 with (first | (go_at_call 199; refine HA.mono ?_; rintro e w5 ⟨rfl, b5⟩) | (refine wpList_alloc_agg rfl 65 rfl _ Safg.zero65 ?_; intro w6 g4 hg4 k6 b6) | (refine wpList_store_agg rfl 65 (.tmp 4) _ rfl g4 rfl _ (ws 1).cells rfl k6 rfl Safg.size65 (Wd4.one _) ?_; intro w7 k7 n7))
  have B7 : Below w4.heap.size w4 w7 := (b5.trans (b6.mono b5.size)).trans (n7.below (Nat.le_trans b5.size hg4))
  have h7 := h4.below B7
  have T7 := T4.trans (Turn.of_below B7 (Nat.le_refl _) _)
  have k3 := k4.below B7 k4.lt
  clear h4 T4 b5 b6 n7 B7 k4 k6 HA
  have HO : Calls Safg.prog 21 #[.pointer (some ⟨gm, 0, none⟩)] w7 fun e w' => e = .returned (.int .u8 18) ∧ Below w7.heap.size w7 w' := (opcode_any w7 gm gv gc pc 3 gas ws C Ls Lc h7 hpc hC).mono fun e w' ⟨h1, h2⟩ => ⟨by rw [h1, ho]; rfl, h2⟩
  go_upto_region 7 with (go_at_call 21; refine HO.mono ?_; rintro e w9 ⟨rfl, b9⟩)
  have h9 := h7.below b9
  have T9 := T7.trans (Turn.of_below b9 (Nat.le_refl _) _)
  have k3 := k3.below b9 k3.lt
  have k7 := k7.below b9 k7.lt
  clear h7 T7 b9 HO
  obtain ⟨t, ht⟩ : ∃ t : Bool, sltW (ws 2).val (ws 1).val = t := ⟨_, rfl⟩
  have HT : Hid (sltW (ws 2).val (ws 1).val = t) := ht
  have HB : Calls Safg.prog 216 #[(ws 2).v, (ws 1).v] w9 fun e w' => e = .returned (.bool t) ∧ Below w9.heap.size w9 w' := by rw [← ht]; exact slt_any w9 (ws 2) (ws 1) a2 a1
  clear ht
  go_upto_region 20 with (first | (refine wpList_load_mid rfl 65 (.tmp 3) rfl g3 0 rfl _ _ k3.cell Safg.under65 rfl Safg.size65 ?_) | (refine wpList_load_mid rfl 65 (.tmp 4) rfl g4 0 rfl _ _ k7.cell Safg.under65 rfl Safg.size65 ?_) | (go_at_call 216; refine HB.mono ?_; rintro e w10 ⟨rfl, b10⟩))
  have h10 := h9.below b10
  have T10 := T9.trans (Turn.of_below b10 (Nat.le_refl _) _)
  go_wp2_with (first | (go_at_call 218; refine (flag_any _ t).mono ?_; rintro e w11 ⟨rfl, b11⟩) | (go_at_call 195; refine (settle_any w11 gm gv gc pc 3 gas 2 1 ws C Ls Lc (flagW t) (flagW_ok t) (h10.below b11) (by omega) (by omega) (by omega) (by omega)).mono ?_; rintro e w12 ⟨rfl, h12, T12⟩))
  go_end0
  exact ⟨flagW t, flagW_ok t, by rw [flagW_val, ← HT.out]; rfl, rfl, h12, (T10.trans (Turn.of_below b11 (Nat.le_refl _) _)).trans T12⟩
set_option maxRecDepth 100000 in
set_option maxHeartbeats 4000000 in
theorem opx_19 (w : World) (gm gv gc pc gas : Nat) (ws : Nat → Wd4) (C Ls Lc : List Nat) (h : Run w gm gv gc pc 3 gas ws C Ls Lc) (hpc : pc < C.length) (hC : C.length ≤ 256) (ho : C.getD pc 0 = 19) :
    Calls Safg.prog 76 #[.pointer (some ⟨gm, 0, none⟩)] w (AluPost 19 w gm gv gc pc gas ws C Ls Lc) := by
  have HR := running_any w gm gv gc pc 3 gas ws C Ls Lc h
  obtain ⟨a0, a1, a2⟩ : (ws 0).Ok ∧ (ws 1).Ok ∧ (ws 2).Ok := by obtain ⟨f, m, mf⟩ := h.m; exact ⟨mf.ok 0 (by omega), mf.ok 1 (by omega), mf.ok 2 (by omega)⟩
  go_enter Safg.func76, Safg.ntmps76
  go_upto_region 2 with (go_at_call 25; refine HR.mono ?_; rintro e w1 ⟨rfl, b1⟩)
  have h1 := h.below b1
  have T1 := Turn.of_below b1 (Nat.le_refl _) [gm]
  have HA : Calls Safg.prog 199 #[.pointer (some ⟨gm, 0, none⟩), .pointer (some ⟨gm, 1803, none⟩), .int .i64 0] w1 fun e w' => e = .returned (ws 2).v ∧ Below w1.heap.size w1 w' := arg_any w1 gm gv gc pc 3 gas 0 ws C Ls Lc h1 (by omega) (by omega)
  clear h HR b1
  go_upto_region 3 with (first | (go_at_call 199; refine HA.mono ?_; rintro e w2 ⟨rfl, b2⟩) | (refine wpList_alloc_agg rfl 65 rfl _ Safg.zero65 ?_; intro w3 g3 hg3 k3 b3) | (refine wpList_store_agg rfl 65 (.tmp 3) _ rfl g3 rfl _ (ws 2).cells rfl k3 rfl Safg.size65 (Wd4.one _) ?_; intro w4 k4 n4))
  have B4 : Below w1.heap.size w1 w4 := (b2.trans (b3.mono b2.size)).trans (n4.below (Nat.le_trans b2.size hg3))
  have h4 := h1.below B4
  have T4 := T1.trans (Turn.of_below B4 (Nat.le_refl _) _)
  have HA : Calls Safg.prog 199 #[.pointer (some ⟨gm, 0, none⟩), .pointer (some ⟨gm, 1803, none⟩), .int .i64 1] w4 fun e w' => e = .returned (ws 1).v ∧ Below w4.heap.size w4 w' := arg_any w4 gm gv gc pc 3 gas 1 ws C Ls Lc h4 (by omega) (by omega)
  clear h1 T1 b2 b3 n4 B4 k3
  go_upto_region 4 with (first | (go_at_call 199; refine HA.mono ?_; rintro e w5 ⟨rfl, b5⟩) | (refine wpList_alloc_agg rfl 65 rfl _ Safg.zero65 ?_; intro w6 g4 hg4 k6 b6) | (refine wpList_store_agg rfl 65 (.tmp 4) _ rfl g4 rfl _ (ws 1).cells rfl k6 rfl Safg.size65 (Wd4.one _) ?_; intro w7 k7 n7))
  have B7 : Below w4.heap.size w4 w7 := (b5.trans (b6.mono b5.size)).trans (n7.below (Nat.le_trans b5.size hg4))
  have h7 := h4.below B7
  have T7 := T4.trans (Turn.of_below B7 (Nat.le_refl _) _)
  have k3 := k4.below B7 k4.lt
  clear h4 T4 b5 b6 n7 B7 k4 k6 HA
  have HO : Calls Safg.prog 21 #[.pointer (some ⟨gm, 0, none⟩)] w7 fun e w' => e = .returned (.int .u8 19) ∧ Below w7.heap.size w7 w' := (opcode_any w7 gm gv gc pc 3 gas ws C Ls Lc h7 hpc hC).mono fun e w' ⟨h1, h2⟩ => ⟨by rw [h1, ho]; rfl, h2⟩
  go_upto_region 7 with (go_at_call 21; refine HO.mono ?_; rintro e w9 ⟨rfl, b9⟩)
  have h9 := h7.below b9
  have T9 := T7.trans (Turn.of_below b9 (Nat.le_refl _) _)
  have k3 := k3.below b9 k3.lt
  have k7 := k7.below b9 k7.lt
  clear h7 T7 b9 HO
  obtain ⟨t, ht⟩ : ∃ t : Bool, sltW (ws 1).val (ws 2).val = t := ⟨_, rfl⟩
  have HT : Hid (sltW (ws 1).val (ws 2).val = t) := ht
  have HB : Calls Safg.prog 217 #[(ws 2).v, (ws 1).v] w9 fun e w' => e = .returned (.bool t) ∧ Below w9.heap.size w9 w' := by rw [← ht]; exact sgt_any w9 (ws 2) (ws 1) a2 a1
  clear ht
  go_upto_region 20 with (first | (refine wpList_load_mid rfl 65 (.tmp 3) rfl g3 0 rfl _ _ k3.cell Safg.under65 rfl Safg.size65 ?_) | (refine wpList_load_mid rfl 65 (.tmp 4) rfl g4 0 rfl _ _ k7.cell Safg.under65 rfl Safg.size65 ?_) | (go_at_call 217; refine HB.mono ?_; rintro e w10 ⟨rfl, b10⟩))
  have h10 := h9.below b10
  have T10 := T9.trans (Turn.of_below b10 (Nat.le_refl _) _)
  go_wp2_with (first | (go_at_call 218; refine (flag_any _ t).mono ?_; rintro e w11 ⟨rfl, b11⟩) | (go_at_call 195; refine (settle_any w11 gm gv gc pc 3 gas 2 1 ws C Ls Lc (flagW t) (flagW_ok t) (h10.below b11) (by omega) (by omega) (by omega) (by omega)).mono ?_; rintro e w12 ⟨rfl, h12, T12⟩))
  go_end0
  exact ⟨flagW t, flagW_ok t, by rw [flagW_val, ← HT.out]; rfl, rfl, h12, (T10.trans (Turn.of_below b11 (Nat.le_refl _) _)).trans T12⟩
set_option maxRecDepth 100000 in
set_option maxHeartbeats 4000000 in
theorem opx_20 (w : World) (gm gv gc pc gas : Nat) (ws : Nat → Wd4) (C Ls Lc : List Nat) (h : Run w gm gv gc pc 3 gas ws C Ls Lc) (hpc : pc < C.length) (hC : C.length ≤ 256) (ho : C.getD pc 0 = 20) :
    Calls Safg.prog 76 #[.pointer (some ⟨gm, 0, none⟩)] w (AluPost 20 w gm gv gc pc gas ws C Ls Lc) := by
  have HR := running_any w gm gv gc pc 3 gas ws C Ls Lc h
  obtain ⟨a0, a1, a2⟩ : (ws 0).Ok ∧ (ws 1).Ok ∧ (ws 2).Ok := by obtain ⟨f, m, mf⟩ := h.m; exact ⟨mf.ok 0 (by omega), mf.ok 1 (by omega), mf.ok 2 (by omega)⟩
  go_enter Safg.func76, Safg.ntmps76
  go_upto_region 2 with (go_at_call 25; refine HR.mono ?_; rintro e w1 ⟨rfl, b1⟩)
  have h1 := h.below b1
  have T1 := Turn.of_below b1 (Nat.le_refl _) [gm]
  have HA : Calls Safg.prog 199 #[.pointer (some ⟨gm, 0, none⟩), .pointer (some ⟨gm, 1803, none⟩), .int .i64 0] w1 fun e w' => e = .returned (ws 2).v ∧ Below w1.heap.size w1 w' := arg_any w1 gm gv gc pc 3 gas 0 ws C Ls Lc h1 (by omega) (by omega)
  clear h HR b1
  go_upto_region 3 with (first | (go_at_call 199; refine HA.mono ?_; rintro e w2 ⟨rfl, b2⟩) | (refine wpList_alloc_agg rfl 65 rfl _ Safg.zero65 ?_; intro w3 g3 hg3 k3 b3) | (refine wpList_store_agg rfl 65 (.tmp 3) _ rfl g3 rfl _ (ws 2).cells rfl k3 rfl Safg.size65 (Wd4.one _) ?_; intro w4 k4 n4))
  have B4 : Below w1.heap.size w1 w4 := (b2.trans (b3.mono b2.size)).trans (n4.below (Nat.le_trans b2.size hg3))
  have h4 := h1.below B4
  have T4 := T1.trans (Turn.of_below B4 (Nat.le_refl _) _)
  have HA : Calls Safg.prog 199 #[.pointer (some ⟨gm, 0, none⟩), .pointer (some ⟨gm, 1803, none⟩), .int .i64 1] w4 fun e w' => e = .returned (ws 1).v ∧ Below w4.heap.size w4 w' := arg_any w4 gm gv gc pc 3 gas 1 ws C Ls Lc h4 (by omega) (by omega)
  clear h1 T1 b2 b3 n4 B4 k3
  go_upto_region 4 with (first | (go_at_call 199; refine HA.mono ?_; rintro e w5 ⟨rfl, b5⟩) | (refine wpList_alloc_agg rfl 65 rfl _ Safg.zero65 ?_; intro w6 g4 hg4 k6 b6) | (refine wpList_store_agg rfl 65 (.tmp 4) _ rfl g4 rfl _ (ws 1).cells rfl k6 rfl Safg.size65 (Wd4.one _) ?_; intro w7 k7 n7))
  have B7 : Below w4.heap.size w4 w7 := (b5.trans (b6.mono b5.size)).trans (n7.below (Nat.le_trans b5.size hg4))
  have h7 := h4.below B7
  have T7 := T4.trans (Turn.of_below B7 (Nat.le_refl _) _)
  have k3 := k4.below B7 k4.lt
  clear h4 T4 b5 b6 n7 B7 k4 k6 HA
  have HO : Calls Safg.prog 21 #[.pointer (some ⟨gm, 0, none⟩)] w7 fun e w' => e = .returned (.int .u8 20) ∧ Below w7.heap.size w7 w' := (opcode_any w7 gm gv gc pc 3 gas ws C Ls Lc h7 hpc hC).mono fun e w' ⟨h1, h2⟩ => ⟨by rw [h1, ho]; rfl, h2⟩
  go_upto_region 7 with (go_at_call 21; refine HO.mono ?_; rintro e w9 ⟨rfl, b9⟩)
  have h9 := h7.below b9
  have T9 := T7.trans (Turn.of_below b9 (Nat.le_refl _) _)
  have k3 := k3.below b9 k3.lt
  have k7 := k7.below b9 k7.lt
  clear h7 T7 b9 HO
  obtain ⟨t, ht⟩ : ∃ t : Bool, decide ((ws 2).val = (ws 1).val) = t := ⟨_, rfl⟩
  have HT : Hid (decide ((ws 2).val = (ws 1).val) = t) := ht
  clear ht
  go_upto_region 20 with (first | (refine wpList_load_mid rfl 65 (.tmp 3) rfl g3 0 rfl _ _ k3.cell Safg.under65 rfl Safg.size65 ?_) | (refine wpList_load_mid rfl 65 (.tmp 4) rfl g4 0 rfl _ _ k7.cell Safg.under65 rfl Safg.size65 ?_) | (refine wpList_eql_wd rfl 65 (.tmp 41) (.tmp 42) rfl (ws 2) (ws 1) rfl rfl a2 a1 ?_; rw [HT.out]))
  have h10 := h9
  have T10 := T9
  go_wp2_with (first | (go_at_call 218; refine (flag_any _ t).mono ?_; rintro e w11 ⟨rfl, b11⟩) | (go_at_call 195; refine (settle_any w11 gm gv gc pc 3 gas 2 1 ws C Ls Lc (flagW t) (flagW_ok t) (h10.below b11) (by omega) (by omega) (by omega) (by omega)).mono ?_; rintro e w12 ⟨rfl, h12, T12⟩))
  go_end0
  exact ⟨flagW t, flagW_ok t, by rw [flagW_val, ← HT.out]; rfl, rfl, h12, (T10.trans (Turn.of_below b11 (Nat.le_refl _) _)).trans T12⟩
set_option maxRecDepth 100000 in
set_option maxHeartbeats 4000000 in
theorem opx_21 (w : World) (gm gv gc pc gas : Nat) (ws : Nat → Wd4) (C Ls Lc : List Nat) (h : Run w gm gv gc pc 3 gas ws C Ls Lc) (hpc : pc < C.length) (hC : C.length ≤ 256) (ho : C.getD pc 0 = 21) :
    Calls Safg.prog 76 #[.pointer (some ⟨gm, 0, none⟩)] w (AluPost 21 w gm gv gc pc gas ws C Ls Lc) := by
  have HR := running_any w gm gv gc pc 3 gas ws C Ls Lc h
  obtain ⟨a0, a1, a2⟩ : (ws 0).Ok ∧ (ws 1).Ok ∧ (ws 2).Ok := by obtain ⟨f, m, mf⟩ := h.m; exact ⟨mf.ok 0 (by omega), mf.ok 1 (by omega), mf.ok 2 (by omega)⟩
  go_enter Safg.func76, Safg.ntmps76
  go_upto_region 2 with (go_at_call 25; refine HR.mono ?_; rintro e w1 ⟨rfl, b1⟩)
  have h1 := h.below b1
  have T1 := Turn.of_below b1 (Nat.le_refl _) [gm]
  have HA : Calls Safg.prog 199 #[.pointer (some ⟨gm, 0, none⟩), .pointer (some ⟨gm, 1803, none⟩), .int .i64 0] w1 fun e w' => e = .returned (ws 2).v ∧ Below w1.heap.size w1 w' := arg_any w1 gm gv gc pc 3 gas 0 ws C Ls Lc h1 (by omega) (by omega)
  clear h HR b1
  go_upto_region 3 with (first | (go_at_call 199; refine HA.mono ?_; rintro e w2 ⟨rfl, b2⟩) | (refine wpList_alloc_agg rfl 65 rfl _ Safg.zero65 ?_; intro w3 g3 hg3 k3 b3) | (refine wpList_store_agg rfl 65 (.tmp 3) _ rfl g3 rfl _ (ws 2).cells rfl k3 rfl Safg.size65 (Wd4.one _) ?_; intro w4 k4 n4))
  have B4 : Below w1.heap.size w1 w4 := (b2.trans (b3.mono b2.size)).trans (n4.below (Nat.le_trans b2.size hg3))
  have h4 := h1.below B4
  have T4 := T1.trans (Turn.of_below B4 (Nat.le_refl _) _)
  have HA : Calls Safg.prog 199 #[.pointer (some ⟨gm, 0, none⟩), .pointer (some ⟨gm, 1803, none⟩), .int .i64 1] w4 fun e w' => e = .returned (ws 1).v ∧ Below w4.heap.size w4 w' := arg_any w4 gm gv gc pc 3 gas 1 ws C Ls Lc h4 (by omega) (by omega)
  clear h1 T1 b2 b3 n4 B4 k3
  go_upto_region 4 with (first | (go_at_call 199; refine HA.mono ?_; rintro e w5 ⟨rfl, b5⟩) | (refine wpList_alloc_agg rfl 65 rfl _ Safg.zero65 ?_; intro w6 g4 hg4 k6 b6) | (refine wpList_store_agg rfl 65 (.tmp 4) _ rfl g4 rfl _ (ws 1).cells rfl k6 rfl Safg.size65 (Wd4.one _) ?_; intro w7 k7 n7))
  have B7 : Below w4.heap.size w4 w7 := (b5.trans (b6.mono b5.size)).trans (n7.below (Nat.le_trans b5.size hg4))
  have h7 := h4.below B7
  have T7 := T4.trans (Turn.of_below B7 (Nat.le_refl _) _)
  have k3 := k4.below B7 k4.lt
  clear h4 T4 b5 b6 n7 B7 k4 k6 HA
  have HO : Calls Safg.prog 21 #[.pointer (some ⟨gm, 0, none⟩)] w7 fun e w' => e = .returned (.int .u8 21) ∧ Below w7.heap.size w7 w' := (opcode_any w7 gm gv gc pc 3 gas ws C Ls Lc h7 hpc hC).mono fun e w' ⟨h1, h2⟩ => ⟨by rw [h1, ho]; rfl, h2⟩
  go_upto_region 7 with (go_at_call 21; refine HO.mono ?_; rintro e w9 ⟨rfl, b9⟩)
  have h9 := h7.below b9
  have T9 := T7.trans (Turn.of_below b9 (Nat.le_refl _) _)
  have k3 := k3.below b9 k3.lt
  have k7 := k7.below b9 k7.lt
  clear h7 T7 b9 HO
  obtain ⟨t, ht⟩ : ∃ t : Bool, decide ((ws 2).val = 0) = t := ⟨_, rfl⟩
  have HT : Hid (decide ((ws 2).val = 0) = t) := ht
  have HB : Calls Safg.prog 205 #[(ws 2).v] w9 fun e w' => e = .returned (.bool t) ∧ Below w9.heap.size w9 w' := by rw [← ht]; exact isZero_any w9 (ws 2) a2
  clear ht
  go_upto_region 20 with (first | (refine wpList_load_mid rfl 65 (.tmp 3) rfl g3 0 rfl _ _ k3.cell Safg.under65 rfl Safg.size65 ?_) | (refine wpList_load_mid rfl 65 (.tmp 4) rfl g4 0 rfl _ _ k7.cell Safg.under65 rfl Safg.size65 ?_) | (go_at_call 205; refine HB.mono ?_; rintro e w10 ⟨rfl, b10⟩))
  have h10 := h9.below b10
  have T10 := T9.trans (Turn.of_below b10 (Nat.le_refl _) _)
  go_wp2_with (first | (go_at_call 218; refine (flag_any _ t).mono ?_; rintro e w11 ⟨rfl, b11⟩) | (go_at_call 195; refine (settle_any w11 gm gv gc pc 3 gas 1 1 ws C Ls Lc (flagW t) (flagW_ok t) (h10.below b11) (by omega) (by omega) (by omega) (by omega)).mono ?_; rintro e w12 ⟨rfl, h12, T12⟩))
  go_end0
  exact ⟨flagW t, flagW_ok t, by rw [flagW_val, ← HT.out]; rfl, rfl, h12, (T10.trans (Turn.of_below b11 (Nat.le_refl _) _)).trans T12⟩
end Go.Proofs.YgcsafGreat
