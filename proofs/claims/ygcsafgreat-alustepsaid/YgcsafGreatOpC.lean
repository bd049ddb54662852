/-
  OpBits (77).
-/
import Derived.Test.YgcsafGreatAlu0
namespace Go.Proofs.YgcsafGreat
open Go.RowKit
set_option linter.unusedVariables false
set_option linter.unusedSimpArgs false

set_option maxRecDepth 100000 in
set_option maxHeartbeats 4000000 in
theorem opx_22 (w : World) (gm gv gc pc gas : Nat) (ws : Nat → Wd4) (C Ls Lc : List Nat) (h : Run w gm gv gc pc 3 gas ws C Ls Lc) (hpc : pc < C.length) (hC : C.length ≤ 256) (ho : C.getD pc 0 = 22) :
    Calls Safg.prog 77 #[.pointer (some ⟨gm, 0, none⟩)] w (AluPost 22 w gm gv gc pc gas ws C Ls Lc) := by
  have HR := running_any w gm gv gc pc 3 gas ws C Ls Lc h
  obtain ⟨a0, a1, a2⟩ : (ws 0).Ok ∧ (ws 1).Ok ∧ (ws 2).Ok := by obtain ⟨f, m, mf⟩ := h.m; exact ⟨mf.ok 0 (by omega), mf.ok 1 (by omega), mf.ok 2 (by omega)⟩
  go_enter Safg.func77, Safg.ntmps77
  go_upto_region 2 with (go_at_call 25; refine HR.mono ?_; rintro e w1 ⟨rfl, b1⟩)
  have h1 := h.below b1
  have T1 := Turn.of_below b1 (Nat.le_refl _) [gm]
  have HA : Calls Safg.prog 199 #[.pointer (some ⟨gm, 0, none⟩), .pointer (some ⟨gm, 1803, none⟩), .int .i64 0] w1 fun e w' => e = .returned (ws 2).v ∧ Below w1.heap.size w1 w' := arg_any w1 gm gv gc pc 3 gas 0 ws C Ls Lc h1 (by omega) (by omega)
  clear h HR b1
  go_upto_region 3 with (first | (go_at_call 199; refine HA.mono ?_; rintro e w2 ⟨rfl, b2⟩) | (refine wpList_alloc_agg rfl 65 rfl _ Safg.zero65 ?_; intro w3 g3 hg3 k3 b3) | (refine wpList_store_agg rfl 65 (.tmp 3) _ rfl g3 rfl _ (ws 2).cells rfl k3 rfl Safg.size65 (Wd4.one _) ?_; intro w4 k4 n4))
  have B4 : Below w1.heap.size w1 w4 := (b2.trans (b3.mono b2.size)).trans (n4.below (Nat.le_trans b2.size hg3))
  have h4 := h1.below B4
  have T4 := T1.trans (Turn.of_below B4 (Nat.le_refl _) _)
  have HA : Calls Safg.prog 199 #[.pointer (some ⟨gm, 0, none⟩), .pointer (some ⟨gm, 1803, none⟩), .int .i64 1] w4 fun e w' => e = .returned (ws 1).v ∧ Below w4.heap.size w4 w' := arg_any w4 gm gv gc pc 3 gas 1 ws C Ls Lc h4 (by omega) (by omega)
  clear h1 T1 b2 b3 n4 B4 k3
  go_upto_region 4 with (first | (go_at_call 199; refine HA.mono ?_; rintro e w5 ⟨rfl, b5⟩) | (refine wpList_alloc_agg rfl 65 rfl _ Safg.zero65 ?_; intro w6 g4 hg4 k6 b6) | (refine wpList_store_agg rfl 65 (.tmp 4) _ rfl g4 rfl _ (ws 1).cells rfl k6 rfl Safg.size65 (Wd4.one _) ?_; intro w7 k7 n7))
  have B7 : Below w4.heap.size w4 w7 := (b5.trans (b6.mono b5.size)).trans (n7.below (Nat.le_trans b5.size hg4))
  have h7 := h4.below B7
  have T7 := T4.trans (Turn.of_below B7 (Nat.le_refl _) _)
  have k3 := k4.below B7 k4.lt
  clear h4 T4 b5 b6 n7 B7 k4 k6 HA
  go_upto_region 6 with (first | (refine wpList_alloc_agg rfl 65 rfl _ Safg.zero65 ?_; intro w8 g5 hg5 k5 b8) | (refine wpList_build_at rfl 65 _ rfl [] rfl Wd4.zero.cells built65' ?_) | (refine wpList_store_self rfl 65 (.tmp 5) _ rfl g5 0 Wd4.zero.cells rfl rfl k5.cell k5.free Safg.size65 (Wd4.one _) ?_))
  have n5 : g5 ≠ gm := by obtain ⟨f, m, _⟩ := h7.m; have := m.lt; omega
  have n5g : gv ≠ g5 := by have := h7.lv; omega
  have n5c : gc ≠ g5 := by have := h7.own.lt; omega
  have n5w : w.heap.size ≤ g5 := Nat.le_trans T7.size hg5
  have h8 := h7.below b8
  have T8 := T7.trans (Turn.of_below b8 (Nat.le_refl _) _)
  have k3 := k3.below b8 k3.lt
  have k7 := k7.below b8 k7.lt
  clear h7 T7 b8
  have HO : Calls Safg.prog 21 #[.pointer (some ⟨gm, 0, none⟩)] w8 fun e w' => e = .returned (.int .u8 22) ∧ Below w8.heap.size w8 w' := (opcode_any w8 gm gv gc pc 3 gas ws C Ls Lc h8 hpc hC).mono fun e w' ⟨h1, h2⟩ => ⟨by rw [h1, ho]; rfl, h2⟩
  go_upto_region 7 with (go_at_call 21; refine HO.mono ?_; rintro e w9 ⟨rfl, b9⟩)
  have h9 := h8.below b9
  have T9 := T8.trans (Turn.of_below b9 (Nat.le_refl _) _)
  have k3 := k3.below b9 k3.lt
  have k7 := k7.below b9 k7.lt
  have k5 := k5.below b9 k5.lt
  have hg5' : g5 < w9.heap.size := k5.lt
  clear h8 T8 b9 HO
  go_upto_region 24 with (first | (refine wpList_load_mid rfl 65 (.tmp 3) rfl g3 0 rfl _ _ k3.cell Safg.under65 rfl Safg.size65 ?_) | (refine wpList_load_mid rfl 65 (.tmp 4) rfl g4 0 rfl _ _ k7.cell Safg.under65 rfl Safg.size65 ?_) | (go_at_call 219; refine (uop_22 w9 (ws 2) (ws 1) (ws 0).val a2 a1).mono ?_; rintro e w10 ⟨s, sok, sv, rfl, b10⟩; have k5 := k5.below b10 k5.lt) | (refine wpList_store_agg rfl 65 (.tmp 5) _ rfl g5 rfl _ s.cells rfl k5 rfl Safg.size65 (Wd4.one _) ?_; intro w11 k11 n11))
  have n5v : g5 ∉ [gm] := by simpa using n5
  have h10 := h9.below b10
  have T10 := T9.trans (Turn.of_below b10 (Nat.le_refl _) _)
  have h11 := h10.turn (Turn.of_only n11) (by simpa using Ne.symm n5) (by simpa using n5g) (by simpa using n5c)
  have T11 := T10.then_ (Turn.of_only n11) (fun i hi hl => absurd hl (by obtain rfl : i = g5 := (by simpa using hi); omega))
  have HS := settle_any w11 gm gv gc pc 3 gas 2 1 ws C Ls Lc s sok h11 (by omega) (by omega) (by omega) (by omega)
  clear h9 T9 h10 T10 b10 n11 k3 k7
  go_wp2_with (first | (refine wpList_load_mid rfl 65 (.tmp 5) rfl g5 0 rfl _ _ k11.cell Safg.under65 rfl Safg.size65 ?_) | (go_at_call 195; refine HS.mono ?_; rintro e w12 ⟨rfl, h12, T12⟩))
  go_end0
  exact ⟨s, sok, sv, rfl, h12, T11.trans T12⟩
set_option maxRecDepth 100000 in
set_option maxHeartbeats 4000000 in
theorem opx_23 (w : World) (gm gv gc pc gas : Nat) (ws : Nat → Wd4) (C Ls Lc : List Nat) (h : Run w gm gv gc pc 3 gas ws C Ls Lc) (hpc : pc < C.length) (hC : C.length ≤ 256) (ho : C.getD pc 0 = 23) :
    Calls Safg.prog 77 #[.pointer (some ⟨gm, 0, none⟩)] w (AluPost 23 w gm gv gc pc gas ws C Ls Lc) := by
  have HR := running_any w gm gv gc pc 3 gas ws C Ls Lc h
  obtain ⟨a0, a1, a2⟩ : (ws 0).Ok ∧ (ws 1).Ok ∧ (ws 2).Ok := by obtain ⟨f, m, mf⟩ := h.m; exact ⟨mf.ok 0 (by omega), mf.ok 1 (by omega), mf.ok 2 (by omega)⟩
  go_enter Safg.func77, Safg.ntmps77
  go_upto_region 2 with (go_at_call 25; refine HR.mono ?_; rintro e w1 ⟨rfl, b1⟩)
  have h1 := h.below b1
  have T1 := Turn.of_below b1 (Nat.le_refl _) [gm]
  have HA : Calls Safg.prog 199 #[.pointer (some ⟨gm, 0, none⟩), .pointer (some ⟨gm, 1803, none⟩), .int .i64 0] w1 fun e w' => e = .returned (ws 2).v ∧ Below w1.heap.size w1 w' := arg_any w1 gm gv gc pc 3 gas 0 ws C Ls Lc h1 (by omega) (by omega)
  clear h HR b1
  go_upto_region 3 with (first | (go_at_call 199; refine HA.mono ?_; rintro e w2 ⟨rfl, b2⟩) | (refine wpList_alloc_agg rfl 65 rfl _ Safg.zero65 ?_; intro w3 g3 hg3 k3 b3) | (refine wpList_store_agg rfl 65 (.tmp 3) _ rfl g3 rfl _ (ws 2).cells rfl k3 rfl Safg.size65 (Wd4.one _) ?_; intro w4 k4 n4))
  have B4 : Below w1.heap.size w1 w4 := (b2.trans (b3.mono b2.size)).trans (n4.below (Nat.le_trans b2.size hg3))
  have h4 := h1.below B4
  have T4 := T1.trans (Turn.of_below B4 (Nat.le_refl _) _)
  have HA : Calls Safg.prog 199 #[.pointer (some ⟨gm, 0, none⟩), .pointer (some ⟨gm, 1803, none⟩), .int .i64 1] w4 fun e w' => e = .returned (ws 1).v ∧ Below w4.heap.size w4 w' := arg_any w4 gm gv gc pc 3 gas 1 ws C Ls Lc h4 (by omega) (by omega)
  clear h1 T1 b2 b3 n4 B4 k3
  go_upto_region 4 with (first | (go_at_call 199; refine HA.mono ?_; rintro e w5 ⟨rfl, b5⟩) | (refine wpList_alloc_agg rfl 65 rfl _ Safg.zero65 ?_; intro w6 g4 hg4 k6 b6) | (refine wpList_store_agg rfl 65 (.tmp 4) _ rfl g4 rfl _ (ws 1).cells rfl k6 rfl Safg.size65 (Wd4.one _) ?_; intro w7 k7 n7))
  have B7 : Below w4.heap.size w4 w7 := (b5.trans (b6.mono b5.size)).trans (n7.below (Nat.le_trans b5.size hg4))
  have h7 := h4.below B7
  have T7 := T4.trans (Turn.of_below B7 (Nat.le_refl _) _)
  have k3 := k4.below B7 k4.lt
  clear h4 T4 b5 b6 n7 B7 k4 k6 HA
  go_upto_region 6 with (first | (refine wpList_alloc_agg rfl 65 rfl _ Safg.zero65 ?_; intro w8 g5 hg5 k5 b8) | (refine wpList_build_at rfl 65 _ rfl [] rfl Wd4.zero.cells built65' ?_) | (refine wpList_store_self rfl 65 (.tmp 5) _ rfl g5 0 Wd4.zero.cells rfl rfl k5.cell k5.free Safg.size65 (Wd4.one _) ?_))
  have n5 : g5 ≠ gm := by obtain ⟨f, m, _⟩ := h7.m; have := m.lt; omega
  have n5g : gv ≠ g5 := by have := h7.lv; omega
  have n5c : gc ≠ g5 := by have := h7.own.lt; omega
  have n5w : w.heap.size ≤ g5 := Nat.le_trans T7.size hg5
  have h8 := h7.below b8
  have T8 := T7.trans (Turn.of_below b8 (Nat.le_refl _) _)
  have k3 := k3.below b8 k3.lt
  have k7 := k7.below b8 k7.lt
  clear h7 T7 b8
  have HO : Calls Safg.prog 21 #[.pointer (some ⟨gm, 0, none⟩)] w8 fun e w' => e = .returned (.int .u8 23) ∧ Below w8.heap.size w8 w' := (opcode_any w8 gm gv gc pc 3 gas ws C Ls Lc h8 hpc hC).mono fun e w' ⟨h1, h2⟩ => ⟨by rw [h1, ho]; rfl, h2⟩
  go_upto_region 7 with (go_at_call 21; refine HO.mono ?_; rintro e w9 ⟨rfl, b9⟩)
  have h9 := h8.below b9
  have T9 := T8.trans (Turn.of_below b9 (Nat.le_refl _) _)
  have k3 := k3.below b9 k3.lt
  have k7 := k7.below b9 k7.lt
  have k5 := k5.below b9 k5.lt
  have hg5' : g5 < w9.heap.size := k5.lt
  clear h8 T8 b9 HO
  go_upto_region 24 with (first | (refine wpList_load_mid rfl 65 (.tmp 3) rfl g3 0 rfl _ _ k3.cell Safg.under65 rfl Safg.size65 ?_) | (refine wpList_load_mid rfl 65 (.tmp 4) rfl g4 0 rfl _ _ k7.cell Safg.under65 rfl Safg.size65 ?_) | (go_at_call 220; refine (uop_23 w9 (ws 2) (ws 1) (ws 0).val a2 a1).mono ?_; rintro e w10 ⟨s, sok, sv, rfl, b10⟩; have k5 := k5.below b10 k5.lt) | (refine wpList_store_agg rfl 65 (.tmp 5) _ rfl g5 rfl _ s.cells rfl k5 rfl Safg.size65 (Wd4.one _) ?_; intro w11 k11 n11))
  have n5v : g5 ∉ [gm] := by simpa using n5
  have h10 := h9.below b10
  have T10 := T9.trans (Turn.of_below b10 (Nat.le_refl _) _)
  have h11 := h10.turn (Turn.of_only n11) (by simpa using Ne.symm n5) (by simpa using n5g) (by simpa using n5c)
  have T11 := T10.then_ (Turn.of_only n11) (fun i hi hl => absurd hl (by obtain rfl : i = g5 := (by simpa using hi); omega))
  have HS := settle_any w11 gm gv gc pc 3 gas 2 1 ws C Ls Lc s sok h11 (by omega) (by omega) (by omega) (by omega)
  clear h9 T9 h10 T10 b10 n11 k3 k7
  go_wp2_with (first | (refine wpList_load_mid rfl 65 (.tmp 5) rfl g5 0 rfl _ _ k11.cell Safg.under65 rfl Safg.size65 ?_) | (go_at_call 195; refine HS.mono ?_; rintro e w12 ⟨rfl, h12, T12⟩))
  go_end0
  exact ⟨s, sok, sv, rfl, h12, T11.trans T12⟩
set_option maxRecDepth 100000 in
set_option maxHeartbeats 4000000 in
theorem opx_24 (w : World) (gm gv gc pc gas : Nat) (ws : Nat → Wd4) (C Ls Lc : List Nat) (h : Run w gm gv gc pc 3 gas ws C Ls Lc) (hpc : pc < C.length) (hC : C.length ≤ 256) (ho : C.getD pc 0 = 24) :
    Calls Safg.prog 77 #[.pointer (some ⟨gm, 0, none⟩)] w (AluPost 24 w gm gv gc pc gas ws C Ls Lc) := by
  have HR := running_any w gm gv gc pc 3 gas ws C Ls Lc h
  obtain ⟨a0, a1, a2⟩ : (ws 0).Ok ∧ (ws 1).Ok ∧ (ws 2).Ok := by obtain ⟨f, m, mf⟩ := h.m; exact ⟨mf.ok 0 (by omega), mf.ok 1 (by omega), mf.ok 2 (by omega)⟩
  go_enter Safg.func77, Safg.ntmps77
  go_upto_region 2 with (go_at_call 25; refine HR.mono ?_; rintro e w1 ⟨rfl, b1⟩)
  have h1 := h.below b1
  have T1 := Turn.of_below b1 (Nat.le_refl _) [gm]
  have HA : Calls Safg.prog 199 #[.pointer (some ⟨gm, 0, none⟩), .pointer (some ⟨gm, 1803, none⟩), .int .i64 0] w1 fun e w' => e = .returned (ws 2).v ∧ Below w1.heap.size w1 w' := arg_any w1 gm gv gc pc 3 gas 0 ws C Ls Lc h1 (by omega) (by omega)
  clear h HR b1
  go_upto_region 3 with (first | (go_at_call 199; refine HA.mono ?_; rintro e w2 ⟨rfl, b2⟩) | (refine wpList_alloc_agg rfl 65 rfl _ Safg.zero65 ?_; intro w3 g3 hg3 k3 b3) | (refine wpList_store_agg rfl 65 (.tmp 3) _ rfl g3 rfl _ (ws 2).cells rfl k3 rfl Safg.size65 (Wd4.one _) ?_; intro w4 k4 n4))
  have B4 : Below w1.heap.size w1 w4 := (b2.trans (b3.mono b2.size)).trans (n4.below (Nat.le_trans b2.size hg3))
  have h4 := h1.below B4
  have T4 := T1.trans (Turn.of_below B4 (Nat.le_refl _) _)
  have HA : Calls Safg.prog 199 #[.pointer (some ⟨gm, 0, none⟩), .pointer (some ⟨gm, 1803, none⟩), .int .i64 1] w4 fun e w' => e = .returned (ws 1).v ∧ Below w4.heap.size w4 w' := arg_any w4 gm gv gc pc 3 gas 1 ws C Ls Lc h4 (by omega) (by omega)
  clear h1 T1 b2 b3 n4 B4 k3
  go_upto_region 4 with (first | (go_at_call 199; refine HA.mono ?_; rintro e w5 ⟨rfl, b5⟩) | (refine wpList_alloc_agg rfl 65 rfl _ Safg.zero65 ?_; intro w6 g4 hg4 k6 b6) | (refine wpList_store_agg rfl 65 (.tmp 4) _ rfl g4 rfl _ (ws 1).cells rfl k6 rfl Safg.size65 (Wd4.one _) ?_; intro w7 k7 n7))
  have B7 : Below w4.heap.size w4 w7 := (b5.trans (b6.mono b5.size)).trans (n7.below (Nat.le_trans b5.size hg4))
  have h7 := h4.below B7
  have T7 := T4.trans (Turn.of_below B7 (Nat.le_refl _) _)
  have k3 := k4.below B7 k4.lt
  clear h4 T4 b5 b6 n7 B7 k4 k6 HA
  go_upto_region 6 with (first | (refine wpList_alloc_agg rfl 65 rfl _ Safg.zero65 ?_; intro w8 g5 hg5 k5 b8) | (refine wpList_build_at rfl 65 _ rfl [] rfl Wd4.zero.cells built65' ?_) | (refine wpList_store_self rfl 65 (.tmp 5) _ rfl g5 0 Wd4.zero.cells rfl rfl k5.cell k5.free Safg.size65 (Wd4.one _) ?_))
  have n5 : g5 ≠ gm := by obtain ⟨f, m, _⟩ := h7.m; have := m.lt; omega
  have n5g : gv ≠ g5 := by have := h7.lv; omega
  have n5c : gc ≠ g5 := by have := h7.own.lt; omega
  have n5w : w.heap.size ≤ g5 := Nat.le_trans T7.size hg5
  have h8 := h7.below b8
  have T8 := T7.trans (Turn.of_below b8 (Nat.le_refl _) _)
  have k3 := k3.below b8 k3.lt
  have k7 := k7.below b8 k7.lt
  clear h7 T7 b8
  have HO : Calls Safg.prog 21 #[.pointer (some ⟨gm, 0, none⟩)] w8 fun e w' => e = .returned (.int .u8 24) ∧ Below w8.heap.size w8 w' := (opcode_any w8 gm gv gc pc 3 gas ws C Ls Lc h8 hpc hC).mono fun e w' ⟨h1, h2⟩ => ⟨by rw [h1, ho]; rfl, h2⟩
  go_upto_region 7 with (go_at_call 21; refine HO.mono ?_; rintro e w9 ⟨rfl, b9⟩)
  have h9 := h8.below b9
  have T9 := T8.trans (Turn.of_below b9 (Nat.le_refl _) _)
  have k3 := k3.below b9 k3.lt
  have k7 := k7.below b9 k7.lt
  have k5 := k5.below b9 k5.lt
  have hg5' : g5 < w9.heap.size := k5.lt
  clear h8 T8 b9 HO
  go_upto_region 24 with (first | (refine wpList_load_mid rfl 65 (.tmp 3) rfl g3 0 rfl _ _ k3.cell Safg.under65 rfl Safg.size65 ?_) | (refine wpList_load_mid rfl 65 (.tmp 4) rfl g4 0 rfl _ _ k7.cell Safg.under65 rfl Safg.size65 ?_) | (go_at_call 221; refine (uop_24 w9 (ws 2) (ws 1) (ws 0).val a2 a1).mono ?_; rintro e w10 ⟨s, sok, sv, rfl, b10⟩; have k5 := k5.below b10 k5.lt) | (refine wpList_store_agg rfl 65 (.tmp 5) _ rfl g5 rfl _ s.cells rfl k5 rfl Safg.size65 (Wd4.one _) ?_; intro w11 k11 n11))
  have n5v : g5 ∉ [gm] := by simpa using n5
  have h10 := h9.below b10
  have T10 := T9.trans (Turn.of_below b10 (Nat.le_refl _) _)
  have h11 := h10.turn (Turn.of_only n11) (by simpa using Ne.symm n5) (by simpa using n5g) (by simpa using n5c)
  have T11 := T10.then_ (Turn.of_only n11) (fun i hi hl => absurd hl (by obtain rfl : i = g5 := (by simpa using hi); omega))
  have HS := settle_any w11 gm gv gc pc 3 gas 2 1 ws C Ls Lc s sok h11 (by omega) (by omega) (by omega) (by omega)
  clear h9 T9 h10 T10 b10 n11 k3 k7
  go_wp2_with (first | (refine wpList_load_mid rfl 65 (.tmp 5) rfl g5 0 rfl _ _ k11.cell Safg.under65 rfl Safg.size65 ?_) | (go_at_call 195; refine HS.mono ?_; rintro e w12 ⟨rfl, h12, T12⟩))
  go_end0
  exact ⟨s, sok, sv, rfl, h12, T11.trans T12⟩
set_option maxRecDepth 100000 in
set_option maxHeartbeats 4000000 in
theorem opx_25 (w : World) (gm gv gc pc gas : Nat) (ws : Nat → Wd4) (C Ls Lc : List Nat) (h : Run w gm gv gc pc 3 gas ws C Ls Lc) (hpc : pc < C.length) (hC : C.length ≤ 256) (ho : C.getD pc 0 = 25) :
    Calls Safg.prog 77 #[.pointer (some ⟨gm, 0, none⟩)] w (AluPost 25 w gm gv gc pc gas ws C Ls Lc) := by
  have HR := running_any w gm gv gc pc 3 gas ws C Ls Lc h
  obtain ⟨a0, a1, a2⟩ : (ws 0).Ok ∧ (ws 1).Ok ∧ (ws 2).Ok := by obtain ⟨f, m, mf⟩ := h.m; exact ⟨mf.ok 0 (by omega), mf.ok 1 (by omega), mf.ok 2 (by omega)⟩
  go_enter Safg.func77, Safg.ntmps77
  go_upto_region 2 with (go_at_call 25; refine HR.mono ?_; rintro e w1 ⟨rfl, b1⟩)
  have h1 := h.below b1
  have T1 := Turn.of_below b1 (Nat.le_refl _) [gm]
  have HA : Calls Safg.prog 199 #[.pointer (some ⟨gm, 0, none⟩), .pointer (some ⟨gm, 1803, none⟩), .int .i64 0] w1 fun e w' => e = .returned (ws 2).v ∧ Below w1.heap.size w1 w' := arg_any w1 gm gv gc pc 3 gas 0 ws C Ls Lc h1 (by omega) (by omega)
  clear h HR b1
  go_upto_region 3 with (first | (go_at_call 199; refine HA.mono ?_; rintro e w2 ⟨rfl, b2⟩) | (refine wpList_alloc_agg rfl 65 rfl _ Safg.zero65 ?_; intro w3 g3 hg3 k3 b3) | (refine wpList_store_agg rfl 65 (.tmp 3) _ rfl g3 rfl _ (ws 2).cells rfl k3 rfl Safg.size65 (Wd4.one _) ?_; intro w4 k4 n4))
  have B4 : Below w1.heap.size w1 w4 := (b2.trans (b3.mono b2.size)).trans (n4.below (Nat.le_trans b2.size hg3))
  have h4 := h1.below B4
  have T4 := T1.trans (Turn.of_below B4 (Nat.le_refl _) _)
  have HA : Calls Safg.prog 199 #[.pointer (some ⟨gm, 0, none⟩), .pointer (some ⟨gm, 1803, none⟩), .int .i64 1] w4 fun e w' => e = .returned (ws 1).v ∧ Below w4.heap.size w4 w' := arg_any w4 gm gv gc pc 3 gas 1 ws C Ls Lc h4 (by omega) (by omega)
  clear h1 T1 b2 b3 n4 B4 k3
  go_upto_region 4 with (first | (go_at_call 199; refine HA.mono ?_; rintro e w5 ⟨rfl, b5⟩) | (refine wpList_alloc_agg rfl 65 rfl _ Safg.zero65 ?_; intro w6 g4 hg4 k6 b6) | (refine wpList_store_agg rfl 65 (.tmp 4) _ rfl g4 rfl _ (ws 1).cells rfl k6 rfl Safg.size65 (Wd4.one _) ?_; intro w7 k7 n7))
  have B7 : Below w4.heap.size w4 w7 := (b5.trans (b6.mono b5.size)).trans (n7.below (Nat.le_trans b5.size hg4))
  have h7 := h4.below B7
  have T7 := T4.trans (Turn.of_below B7 (Nat.le_refl _) _)
  have k3 := k4.below B7 k4.lt
  clear h4 T4 b5 b6 n7 B7 k4 k6 HA
  go_upto_region 6 with (first | (refine wpList_alloc_agg rfl 65 rfl _ Safg.zero65 ?_; intro w8 g5 hg5 k5 b8) | (refine wpList_build_at rfl 65 _ rfl [] rfl Wd4.zero.cells built65' ?_) | (refine wpList_store_self rfl 65 (.tmp 5) _ rfl g5 0 Wd4.zero.cells rfl rfl k5.cell k5.free Safg.size65 (Wd4.one _) ?_))
  have n5 : g5 ≠ gm := by obtain ⟨f, m, _⟩ := h7.m; have := m.lt; omega
  have n5g : gv ≠ g5 := by have := h7.lv; omega
  have n5c : gc ≠ g5 := by have := h7.own.lt; omega
  have n5w : w.heap.size ≤ g5 := Nat.le_trans T7.size hg5
  have h8 := h7.below b8
  have T8 := T7.trans (Turn.of_below b8 (Nat.le_refl _) _)
  have k3 := k3.below b8 k3.lt
  have k7 := k7.below b8 k7.lt
  clear h7 T7 b8
  have HO : Calls Safg.prog 21 #[.pointer (some ⟨gm, 0, none⟩)] w8 fun e w' => e = .returned (.int .u8 25) ∧ Below w8.heap.size w8 w' := (opcode_any w8 gm gv gc pc 3 gas ws C Ls Lc h8 hpc hC).mono fun e w' ⟨h1, h2⟩ => ⟨by rw [h1, ho]; rfl, h2⟩
  go_upto_region 7 with (go_at_call 21; refine HO.mono ?_; rintro e w9 ⟨rfl, b9⟩)
  have h9 := h8.below b9
  have T9 := T8.trans (Turn.of_below b9 (Nat.le_refl _) _)
  have k3 := k3.below b9 k3.lt
  have k7 := k7.below b9 k7.lt
  have k5 := k5.below b9 k5.lt
  have hg5' : g5 < w9.heap.size := k5.lt
  clear h8 T8 b9 HO
  go_upto_region 24 with (first | (refine wpList_load_mid rfl 65 (.tmp 3) rfl g3 0 rfl _ _ k3.cell Safg.under65 rfl Safg.size65 ?_) | (refine wpList_load_mid rfl 65 (.tmp 4) rfl g4 0 rfl _ _ k7.cell Safg.under65 rfl Safg.size65 ?_) | (go_at_call 222; refine (not_any w9 (ws 2) a2).mono ?_; rintro e w10 ⟨s, sok, sv, rfl, b10⟩; have k5 := k5.below b10 k5.lt) | (refine wpList_store_agg rfl 65 (.tmp 5) _ rfl g5 rfl _ s.cells rfl k5 rfl Safg.size65 (Wd4.one _) ?_; intro w11 k11 n11))
  have n5v : g5 ∉ [gm] := by simpa using n5
  have h10 := h9.below b10
  have T10 := T9.trans (Turn.of_below b10 (Nat.le_refl _) _)
  have h11 := h10.turn (Turn.of_only n11) (by simpa using Ne.symm n5) (by simpa using n5g) (by simpa using n5c)
  have T11 := T10.then_ (Turn.of_only n11) (fun i hi hl => absurd hl (by obtain rfl : i = g5 := (by simpa using hi); omega))
  have HS := settle_any w11 gm gv gc pc 3 gas 1 1 ws C Ls Lc s sok h11 (by omega) (by omega) (by omega) (by omega)
  clear h9 T9 h10 T10 b10 n11 k3 k7
  go_wp2_with (first | (refine wpList_load_mid rfl 65 (.tmp 5) rfl g5 0 rfl _ _ k11.cell Safg.under65 rfl Safg.size65 ?_) | (go_at_call 195; refine HS.mono ?_; rintro e w12 ⟨rfl, h12, T12⟩))
  go_end0
  exact ⟨s, sok, sv, rfl, h12, T11.trans T12⟩
set_option maxRecDepth 100000 in
set_option maxHeartbeats 4000000 in
theorem opx_26 (w : World) (gm gv gc pc gas : Nat) (ws : Nat → Wd4) (C Ls Lc : List Nat) (h : Run w gm gv gc pc 3 gas ws C Ls Lc) (hpc : pc < C.length) (hC : C.length ≤ 256) (ho : C.getD pc 0 = 26) :
    Calls Safg.prog 77 #[.pointer (some ⟨gm, 0, none⟩)] w (AluPost 26 w gm gv gc pc gas ws C Ls Lc) := by
  have HR := running_any w gm gv gc pc 3 gas ws C Ls Lc h
  obtain ⟨a0, a1, a2⟩ : (ws 0).Ok ∧ (ws 1).Ok ∧ (ws 2).Ok := by obtain ⟨f, m, mf⟩ := h.m; exact ⟨mf.ok 0 (by omega), mf.ok 1 (by omega), mf.ok 2 (by omega)⟩
  go_enter Safg.func77, Safg.ntmps77
  go_upto_region 2 with (go_at_call 25; refine HR.mono ?_; rintro e w1 ⟨rfl, b1⟩)
  have h1 := h.below b1
  have T1 := Turn.of_below b1 (Nat.le_refl _) [gm]
  have HA : Calls Safg.prog 199 #[.pointer (some ⟨gm, 0, none⟩), .pointer (some ⟨gm, 1803, none⟩), .int .i64 0] w1 fun e w' => e = .returned (ws 2).v ∧ Below w1.heap.size w1 w' := arg_any w1 gm gv gc pc 3 gas 0 ws C Ls Lc h1 (by omega) (by omega)
  clear h HR b1
  go_upto_region 3 with (first | (go_at_call 199; refine HA.mono ?_; rintro e w2 ⟨rfl, b2⟩) | (refine wpList_alloc_agg rfl 65 rfl _ Safg.zero65 ?_; intro w3 g3 hg3 k3 b3) | (refine wpList_store_agg rfl 65 (.tmp 3) _ rfl g3 rfl _ (ws 2).cells rfl k3 rfl Safg.size65 (Wd4.one _) ?_; intro w4 k4 n4))
  have B4 : Below w1.heap.size w1 w4 := (b2.trans (b3.mono b2.size)).trans (n4.below (Nat.le_trans b2.size hg3))
  have h4 := h1.below B4
  have T4 := T1.trans (Turn.of_below B4 (Nat.le_refl _) _)
  have HA : Calls Safg.prog 199 #[.pointer (some ⟨gm, 0, none⟩), .pointer (some ⟨gm, 1803, none⟩), .int .i64 1] w4 fun e w' => e = .returned (ws 1).v ∧ Below w4.heap.size w4 w' := arg_any w4 gm gv gc pc 3 gas 1 ws C Ls Lc h4 (by omega) (by omega)
  clear h1 T1 b2 b3 n4 B4 k3
  go_upto_region 4 with (first | (go_at_call 199; refine HA.mono ?_; rintro e w5 ⟨rfl, b5⟩) | (refine wpList_alloc_agg rfl 65 rfl _ Safg.zero65 ?_; intro w6 g4 hg4 k6 b6) | (refine wpList_store_agg rfl 65 (.tmp 4) _ rfl g4 rfl _ (ws 1).cells rfl k6 rfl Safg.size65 (Wd4.one _) ?_; intro w7 k7 n7))
  have B7 : Below w4.heap.size w4 w7 := (b5.trans (b6.mono b5.size)).trans (n7.below (Nat.le_trans b5.size hg4))
  have h7 := h4.below B7
  have T7 := T4.trans (Turn.of_below B7 (Nat.le_refl _) _)
  have k3 := k4.below B7 k4.lt
  clear h4 T4 b5 b6 n7 B7 k4 k6 HA
  go_upto_region 6 with (first | (refine wpList_alloc_agg rfl 65 rfl _ Safg.zero65 ?_; intro w8 g5 hg5 k5 b8) | (refine wpList_build_at rfl 65 _ rfl [] rfl Wd4.zero.cells built65' ?_) | (refine wpList_store_self rfl 65 (.tmp 5) _ rfl g5 0 Wd4.zero.cells rfl rfl k5.cell k5.free Safg.size65 (Wd4.one _) ?_))
  have n5 : g5 ≠ gm := by obtain ⟨f, m, _⟩ := h7.m; have := m.lt; omega
  have n5g : gv ≠ g5 := by have := h7.lv; omega
  have n5c : gc ≠ g5 := by have := h7.own.lt; omega
  have n5w : w.heap.size ≤ g5 := Nat.le_trans T7.size hg5
  have h8 := h7.below b8
  have T8 := T7.trans (Turn.of_below b8 (Nat.le_refl _) _)
  have k3 := k3.below b8 k3.lt
  have k7 := k7.below b8 k7.lt
  clear h7 T7 b8
  have HO : Calls Safg.prog 21 #[.pointer (some ⟨gm, 0, none⟩)] w8 fun e w' => e = .returned (.int .u8 26) ∧ Below w8.heap.size w8 w' := (opcode_any w8 gm gv gc pc 3 gas ws C Ls Lc h8 hpc hC).mono fun e w' ⟨h1, h2⟩ => ⟨by rw [h1, ho]; rfl, h2⟩
  go_upto_region 7 with (go_at_call 21; refine HO.mono ?_; rintro e w9 ⟨rfl, b9⟩)
  have h9 := h8.below b9
  have T9 := T8.trans (Turn.of_below b9 (Nat.le_refl _) _)
  have k3 := k3.below b9 k3.lt
  have k7 := k7.below b9 k7.lt
  have k5 := k5.below b9 k5.lt
  have hg5' : g5 < w9.heap.size := k5.lt
  clear h8 T8 b9 HO
  go_upto_region 24 with (first | (refine wpList_load_mid rfl 65 (.tmp 3) rfl g3 0 rfl _ _ k3.cell Safg.under65 rfl Safg.size65 ?_) | (refine wpList_load_mid rfl 65 (.tmp 4) rfl g4 0 rfl _ _ k7.cell Safg.under65 rfl Safg.size65 ?_) | (go_at_call 223; refine (uop_26 w9 (ws 2) (ws 1) (ws 0).val a2 a1).mono ?_; rintro e w10 ⟨s, sok, sv, rfl, b10⟩; have k5 := k5.below b10 k5.lt) | (refine wpList_store_agg rfl 65 (.tmp 5) _ rfl g5 rfl _ s.cells rfl k5 rfl Safg.size65 (Wd4.one _) ?_; intro w11 k11 n11))
  have n5v : g5 ∉ [gm] := by simpa using n5
  have h10 := h9.below b10
  have T10 := T9.trans (Turn.of_below b10 (Nat.le_refl _) _)
  have h11 := h10.turn (Turn.of_only n11) (by simpa using Ne.symm n5) (by simpa using n5g) (by simpa using n5c)
  have T11 := T10.then_ (Turn.of_only n11) (fun i hi hl => absurd hl (by obtain rfl : i = g5 := (by simpa using hi); omega))
  have HS := settle_any w11 gm gv gc pc 3 gas 2 1 ws C Ls Lc s sok h11 (by omega) (by omega) (by omega) (by omega)
  clear h9 T9 h10 T10 b10 n11 k3 k7
  go_wp2_with (first | (refine wpList_load_mid rfl 65 (.tmp 5) rfl g5 0 rfl _ _ k11.cell Safg.under65 rfl Safg.size65 ?_) | (go_at_call 195; refine HS.mono ?_; rintro e w12 ⟨rfl, h12, T12⟩))
  go_end0
  exact ⟨s, sok, sv, rfl, h12, T11.trans T12⟩
set_option maxRecDepth 100000 in
set_option maxHeartbeats 4000000 in
theorem opx_27 (w : World) (gm gv gc pc gas : Nat) (ws : Nat → Wd4) (C Ls Lc : List Nat) (h : Run w gm gv gc pc 3 gas ws C Ls Lc) (hpc : pc < C.length) (hC : C.length ≤ 256) (ho : C.getD pc 0 = 27) :
    Calls Safg.prog 77 #[.pointer (some ⟨gm, 0, none⟩)] w (AluPost 27 w gm gv gc pc gas ws C Ls Lc) := by
  have HR := running_any w gm gv gc pc 3 gas ws C Ls Lc h
  obtain ⟨a0, a1, a2⟩ : (ws 0).Ok ∧ (ws 1).Ok ∧ (ws 2).Ok := by obtain ⟨f, m, mf⟩ := h.m; exact ⟨mf.ok 0 (by omega), mf.ok 1 (by omega), mf.ok 2 (by omega)⟩
  go_enter Safg.func77, Safg.ntmps77
  go_upto_region 2 with (go_at_call 25; refine HR.mono ?_; rintro e w1 ⟨rfl, b1⟩)
  have h1 := h.below b1
  have T1 := Turn.of_below b1 (Nat.le_refl _) [gm]
  have HA : Calls Safg.prog 199 #[.pointer (some ⟨gm, 0, none⟩), .pointer (some ⟨gm, 1803, none⟩), .int .i64 0] w1 fun e w' => e = .returned (ws 2).v ∧ Below w1.heap.size w1 w' := arg_any w1 gm gv gc pc 3 gas 0 ws C Ls Lc h1 (by omega) (by omega)
  clear h HR b1
  go_upto_region 3 with (first | (go_at_call 199; refine HA.mono ?_; rintro e w2 ⟨rfl, b2⟩) | (refine wpList_alloc_agg rfl 65 rfl _ Safg.zero65 ?_; intro w3 g3 hg3 k3 b3) | (refine wpList_store_agg rfl 65 (.tmp 3) _ rfl g3 rfl _ (ws 2).cells rfl k3 rfl Safg.size65 (Wd4.one _) ?_; intro w4 k4 n4))
  have B4 : Below w1.heap.size w1 w4 := (b2.trans (b3.mono b2.size)).trans (n4.below (Nat.le_trans b2.size hg3))
  have h4 := h1.below B4
  have T4 := T1.trans (Turn.of_below B4 (Nat.le_refl _) _)
  have HA : Calls Safg.prog 199 #[.pointer (some ⟨gm, 0, none⟩), .pointer (some ⟨gm, 1803, none⟩), .int .i64 1] w4 fun e w' => e = .returned (ws 1).v ∧ Below w4.heap.size w4 w' := arg_any w4 gm gv gc pc 3 gas 1 ws C Ls Lc h4 (by omega) (by omega)
  clear h1 T1 b2 b3 n4 B4 k3
  go_upto_region 4 with (first | (go_at_call 199; refine HA.mono ?_; rintro e w5 ⟨rfl, b5⟩) | (refine wpList_alloc_agg rfl 65 rfl _ Safg.zero65 ?_; intro w6 g4 hg4 k6 b6) | (refine wpList_store_agg rfl 65 (.tmp 4) _ rfl g4 rfl _ (ws 1).cells rfl k6 rfl Safg.size65 (Wd4.one _) ?_; intro w7 k7 n7))
  have B7 : Below w4.heap.size w4 w7 := (b5.trans (b6.mono b5.size)).trans (n7.below (Nat.le_trans b5.size hg4))
  have h7 := h4.below B7
  have T7 := T4.trans (Turn.of_below B7 (Nat.le_refl _) _)
  have k3 := k4.below B7 k4.lt
  clear h4 T4 b5 b6 n7 B7 k4 k6 HA
  go_upto_region 6 with (first | (refine wpList_alloc_agg rfl 65 rfl _ Safg.zero65 ?_; intro w8 g5 hg5 k5 b8) | (refine wpList_build_at rfl 65 _ rfl [] rfl Wd4.zero.cells built65' ?_) | (refine wpList_store_self rfl 65 (.tmp 5) _ rfl g5 0 Wd4.zero.cells rfl rfl k5.cell k5.free Safg.size65 (Wd4.one _) ?_))
  have n5 : g5 ≠ gm := by obtain ⟨f, m, _⟩ := h7.m; have := m.lt; omega
  have n5g : gv ≠ g5 := by have := h7.lv; omega
  have n5c : gc ≠ g5 := by have := h7.own.lt; omega
  have n5w : w.heap.size ≤ g5 := Nat.le_trans T7.size hg5
  have h8 := h7.below b8
  have T8 := T7.trans (Turn.of_below b8 (Nat.le_refl _) _)
  have k3 := k3.below b8 k3.lt
  have k7 := k7.below b8 k7.lt
  clear h7 T7 b8
  have HO : Calls Safg.prog 21 #[.pointer (some ⟨gm, 0, none⟩)] w8 fun e w' => e = .returned (.int .u8 27) ∧ Below w8.heap.size w8 w' := (opcode_any w8 gm gv gc pc 3 gas ws C Ls Lc h8 hpc hC).mono fun e w' ⟨h1, h2⟩ => ⟨by rw [h1, ho]; rfl, h2⟩
  go_upto_region 7 with (go_at_call 21; refine HO.mono ?_; rintro e w9 ⟨rfl, b9⟩)
  have h9 := h8.below b9
  have T9 := T8.trans (Turn.of_below b9 (Nat.le_refl _) _)
  have k3 := k3.below b9 k3.lt
  have k7 := k7.below b9 k7.lt
  have k5 := k5.below b9 k5.lt
  have hg5' : g5 < w9.heap.size := k5.lt
  clear h8 T8 b9 HO
  go_upto_region 24 with (first | (refine wpList_load_mid rfl 65 (.tmp 3) rfl g3 0 rfl _ _ k3.cell Safg.under65 rfl Safg.size65 ?_) | (refine wpList_load_mid rfl 65 (.tmp 4) rfl g4 0 rfl _ _ k7.cell Safg.under65 rfl Safg.size65 ?_) | (go_at_call 224; refine (uop_27 w9 (ws 2) (ws 1) (ws 0).val a2 a1).mono ?_; rintro e w10 ⟨s, sok, sv, rfl, b10⟩; have k5 := k5.below b10 k5.lt) | (refine wpList_store_agg rfl 65 (.tmp 5) _ rfl g5 rfl _ s.cells rfl k5 rfl Safg.size65 (Wd4.one _) ?_; intro w11 k11 n11))
  have n5v : g5 ∉ [gm] := by simpa using n5
  have h10 := h9.below b10
  have T10 := T9.trans (Turn.of_below b10 (Nat.le_refl _) _)
  have h11 := h10.turn (Turn.of_only n11) (by simpa using Ne.symm n5) (by simpa using n5g) (by simpa using n5c)
  have T11 := T10.then_ (Turn.of_only n11) (fun i hi hl => absurd hl (by obtain rfl : i = g5 := (by simpa using hi); omega))
  have HS := settle_any w11 gm gv gc pc 3 gas 2 1 ws C Ls Lc s sok h11 (by omega) (by omega) (by omega) (by omega)
  clear h9 T9 h10 T10 b10 n11 k3 k7
  go_wp2_with (first | (refine wpList_load_mid rfl 65 (.tmp 5) rfl g5 0 rfl _ _ k11.cell Safg.under65 rfl Safg.size65 ?_) | (go_at_call 195; refine HS.mono ?_; rintro e w12 ⟨rfl, h12, T12⟩))
  go_end0
  exact ⟨s, sok, sv, rfl, h12, T11.trans T12⟩
set_option maxRecDepth 100000 in
set_option maxHeartbeats 4000000 in
theorem opx_28 (w : World) (gm gv gc pc gas : Nat) (ws : Nat → Wd4) (C Ls Lc : List Nat) (h : Run w gm gv gc pc 3 gas ws C Ls Lc) (hpc : pc < C.length) (hC : C.length ≤ 256) (ho : C.getD pc 0 = 28) :
    Calls Safg.prog 77 #[.pointer (some ⟨gm, 0, none⟩)] w (AluPost 28 w gm gv gc pc gas ws C Ls Lc) := by
  have HR := running_any w gm gv gc pc 3 gas ws C Ls Lc h
  obtain ⟨a0, a1, a2⟩ : (ws 0).Ok ∧ (ws 1).Ok ∧ (ws 2).Ok := by obtain ⟨f, m, mf⟩ := h.m; exact ⟨mf.ok 0 (by omega), mf.ok 1 (by omega), mf.ok 2 (by omega)⟩
  go_enter Safg.func77, Safg.ntmps77
  go_upto_region 2 with (go_at_call 25; refine HR.mono ?_; rintro e w1 ⟨rfl, b1⟩)
  have h1 := h.below b1
  have T1 := Turn.of_below b1 (Nat.le_refl _) [gm]
  have HA : Calls Safg.prog 199 #[.pointer (some ⟨gm, 0, none⟩), .pointer (some ⟨gm, 1803, none⟩), .int .i64 0] w1 fun e w' => e = .returned (ws 2).v ∧ Below w1.heap.size w1 w' := arg_any w1 gm gv gc pc 3 gas 0 ws C Ls Lc h1 (by omega) (by omega)
  clear h HR b1
  go_upto_region 3 with (first | (go_at_call 199; refine HA.mono ?_; rintro e w2 ⟨rfl, b2⟩) | (refine wpList_alloc_agg rfl 65 rfl _ Safg.zero65 ?_; intro w3 g3 hg3 k3 b3) | (refine wpList_store_agg rfl 65 (.tmp 3) _ rfl g3 rfl _ (ws 2).cells rfl k3 rfl Safg.size65 (Wd4.one _) ?_; intro w4 k4 n4))
  have B4 : Below w1.heap.size w1 w4 := (b2.trans (b3.mono b2.size)).trans (n4.below (Nat.le_trans b2.size hg3))
  have h4 := h1.below B4
  have T4 := T1.trans (Turn.of_below B4 (Nat.le_refl _) _)
  have HA : Calls Safg.prog 199 #[.pointer (some ⟨gm, 0, none⟩), .pointer (some ⟨gm, 1803, none⟩), .int .i64 1] w4 fun e w' => e = .returned (ws 1).v ∧ Below w4.heap.size w4 w' := arg_any w4 gm gv gc pc 3 gas 1 ws C Ls Lc h4 (by omega) (by omega)
  clear h1 T1 b2 b3 n4 B4 k3
  go_upto_region 4 with (first | (go_at_call 199; refine HA.mono ?_; rintro e w5 ⟨rfl, b5⟩) | (refine wpList_alloc_agg rfl 65 rfl _ Safg.zero65 ?_; intro w6 g4 hg4 k6 b6) | (refine wpList_store_agg rfl 65 (.tmp 4) _ rfl g4 rfl _ (ws 1).cells rfl k6 rfl Safg.size65 (Wd4.one _) ?_; intro w7 k7 n7))
  have B7 : Below w4.heap.size w4 w7 := (b5.trans (b6.mono b5.size)).trans (n7.below (Nat.le_trans b5.size hg4))
  have h7 := h4.below B7
  have T7 := T4.trans (Turn.of_below B7 (Nat.le_refl _) _)
  have k3 := k4.below B7 k4.lt
  clear h4 T4 b5 b6 n7 B7 k4 k6 HA
  go_upto_region 6 with (first | (refine wpList_alloc_agg rfl 65 rfl _ Safg.zero65 ?_; intro w8 g5 hg5 k5 b8) | (refine wpList_build_at rfl 65 _ rfl [] rfl Wd4.zero.cells built65' ?_) | (refine wpList_store_self rfl 65 (.tmp 5) _ rfl g5 0 Wd4.zero.cells rfl rfl k5.cell k5.free Safg.size65 (Wd4.one _) ?_))
  have n5 : g5 ≠ gm := by obtain ⟨f, m, _⟩ := h7.m; have := m.lt; omega
  have n5g : gv ≠ g5 := by have := h7.lv; omega
  have n5c : gc ≠ g5 := by have := h7.own.lt; omega
  have n5w : w.heap.size ≤ g5 := Nat.le_trans T7.size hg5
  have h8 := h7.below b8
  have T8 := T7.trans (Turn.of_below b8 (Nat.le_refl _) _)
  have k3 := k3.below b8 k3.lt
  have k7 := k7.below b8 k7.lt
  clear h7 T7 b8
  have HO : Calls Safg.prog 21 #[.pointer (some ⟨gm, 0, none⟩)] w8 fun e w' => e = .returned (.int .u8 28) ∧ Below w8.heap.size w8 w' := (opcode_any w8 gm gv gc pc 3 gas ws C Ls Lc h8 hpc hC).mono fun e w' ⟨h1, h2⟩ => ⟨by rw [h1, ho]; rfl, h2⟩
  go_upto_region 7 with (go_at_call 21; refine HO.mono ?_; rintro e w9 ⟨rfl, b9⟩)
  have h9 := h8.below b9
  have T9 := T8.trans (Turn.of_below b9 (Nat.le_refl _) _)
  have k3 := k3.below b9 k3.lt
  have k7 := k7.below b9 k7.lt
  have k5 := k5.below b9 k5.lt
  have hg5' : g5 < w9.heap.size := k5.lt
  clear h8 T8 b9 HO
  go_upto_region 24 with (first | (refine wpList_load_mid rfl 65 (.tmp 3) rfl g3 0 rfl _ _ k3.cell Safg.under65 rfl Safg.size65 ?_) | (refine wpList_load_mid rfl 65 (.tmp 4) rfl g4 0 rfl _ _ k7.cell Safg.under65 rfl Safg.size65 ?_) | (go_at_call 225; refine (uop_28 w9 (ws 2) (ws 1) (ws 0).val a2 a1).mono ?_; rintro e w10 ⟨s, sok, sv, rfl, b10⟩; have k5 := k5.below b10 k5.lt) | (refine wpList_store_agg rfl 65 (.tmp 5) _ rfl g5 rfl _ s.cells rfl k5 rfl Safg.size65 (Wd4.one _) ?_; intro w11 k11 n11))
  have n5v : g5 ∉ [gm] := by simpa using n5
  have h10 := h9.below b10
  have T10 := T9.trans (Turn.of_below b10 (Nat.le_refl _) _)
  have h11 := h10.turn (Turn.of_only n11) (by simpa using Ne.symm n5) (by simpa using n5g) (by simpa using n5c)
  have T11 := T10.then_ (Turn.of_only n11) (fun i hi hl => absurd hl (by obtain rfl : i = g5 := (by simpa using hi); omega))
  have HS := settle_any w11 gm gv gc pc 3 gas 2 1 ws C Ls Lc s sok h11 (by omega) (by omega) (by omega) (by omega)
  clear h9 T9 h10 T10 b10 n11 k3 k7
  go_wp2_with (first | (refine wpList_load_mid rfl 65 (.tmp 5) rfl g5 0 rfl _ _ k11.cell Safg.under65 rfl Safg.size65 ?_) | (go_at_call 195; refine HS.mono ?_; rintro e w12 ⟨rfl, h12, T12⟩))
  go_end0
  exact ⟨s, sok, sv, rfl, h12, T11.trans T12⟩
set_option maxRecDepth 100000 in
set_option maxHeartbeats 4000000 in
theorem opx_29 (w : World) (gm gv gc pc gas : Nat) (ws : Nat → Wd4) (C Ls Lc : List Nat) (h : Run w gm gv gc pc 3 gas ws C Ls Lc) (hpc : pc < C.length) (hC : C.length ≤ 256) (ho : C.getD pc 0 = 29) :
    Calls Safg.prog 77 #[.pointer (some ⟨gm, 0, none⟩)] w (AluPost 29 w gm gv gc pc gas ws C Ls Lc) := by
  have HR := running_any w gm gv gc pc 3 gas ws C Ls Lc h
  obtain ⟨a0, a1, a2⟩ : (ws 0).Ok ∧ (ws 1).Ok ∧ (ws 2).Ok := by obtain ⟨f, m, mf⟩ := h.m; exact ⟨mf.ok 0 (by omega), mf.ok 1 (by omega), mf.ok 2 (by omega)⟩
  go_enter Safg.func77, Safg.ntmps77
  go_upto_region 2 with (go_at_call 25; refine HR.mono ?_; rintro e w1 ⟨rfl, b1⟩)
  have h1 := h.below b1
  have T1 := Turn.of_below b1 (Nat.le_refl _) [gm]
  have HA : Calls Safg.prog 199 #[.pointer (some ⟨gm, 0, none⟩), .pointer (some ⟨gm, 1803, none⟩), .int .i64 0] w1 fun e w' => e = .returned (ws 2).v ∧ Below w1.heap.size w1 w' := arg_any w1 gm gv gc pc 3 gas 0 ws C Ls Lc h1 (by omega) (by omega)
  clear h HR b1
  go_upto_region 3 with (first | (go_at_call 199; refine HA.mono ?_; rintro e w2 ⟨rfl, b2⟩) | (refine wpList_alloc_agg rfl 65 rfl _ Safg.zero65 ?_; intro w3 g3 hg3 k3 b3) | (refine wpList_store_agg rfl 65 (.tmp 3) _ rfl g3 rfl _ (ws 2).cells rfl k3 rfl Safg.size65 (Wd4.one _) ?_; intro w4 k4 n4))
  have B4 : Below w1.heap.size w1 w4 := (b2.trans (b3.mono b2.size)).trans (n4.below (Nat.le_trans b2.size hg3))
  have h4 := h1.below B4
  have T4 := T1.trans (Turn.of_below B4 (Nat.le_refl _) _)
  have HA : Calls Safg.prog 199 #[.pointer (some ⟨gm, 0, none⟩), .pointer (some ⟨gm, 1803, none⟩), .int .i64 1] w4 fun e w' => e = .returned (ws 1).v ∧ Below w4.heap.size w4 w' := arg_any w4 gm gv gc pc 3 gas 1 ws C Ls Lc h4 (by omega) (by omega)
  clear h1 T1 b2 b3 n4 B4 k3
  go_upto_region 4 with (first | (go_at_call 199; refine HA.mono ?_; rintro e w5 ⟨rfl, b5⟩) | (refine wpList_alloc_agg rfl 65 rfl _ Safg.zero65 ?_; intro w6 g4 hg4 k6 b6) | (refine wpList_store_agg rfl 65 (.tmp 4) _ rfl g4 rfl _ (ws 1).cells rfl k6 rfl Safg.size65 (Wd4.one _) ?_; intro w7 k7 n7))
  have B7 : Below w4.heap.size w4 w7 := (b5.trans (b6.mono b5.size)).trans (n7.below (Nat.le_trans b5.size hg4))
  have h7 := h4.below B7
  have T7 := T4.trans (Turn.of_below B7 (Nat.le_refl _) _)
  have k3 := k4.below B7 k4.lt
  clear h4 T4 b5 b6 n7 B7 k4 k6 HA
  go_upto_region 6 with (first | (refine wpList_alloc_agg rfl 65 rfl _ Safg.zero65 ?_; intro w8 g5 hg5 k5 b8) | (refine wpList_build_at rfl 65 _ rfl [] rfl Wd4.zero.cells built65' ?_) | (refine wpList_store_self rfl 65 (.tmp 5) _ rfl g5 0 Wd4.zero.cells rfl rfl k5.cell k5.free Safg.size65 (Wd4.one _) ?_))
  have n5 : g5 ≠ gm := by obtain ⟨f, m, _⟩ := h7.m; have := m.lt; omega
  have n5g : gv ≠ g5 := by have := h7.lv; omega
  have n5c : gc ≠ g5 := by have := h7.own.lt; omega
  have n5w : w.heap.size ≤ g5 := Nat.le_trans T7.size hg5
  have h8 := h7.below b8
  have T8 := T7.trans (Turn.of_below b8 (Nat.le_refl _) _)
  have k3 := k3.below b8 k3.lt
  have k7 := k7.below b8 k7.lt
  clear h7 T7 b8
  have HO : Calls Safg.prog 21 #[.pointer (some ⟨gm, 0, none⟩)] w8 fun e w' => e = .returned (.int .u8 29) ∧ Below w8.heap.size w8 w' := (opcode_any w8 gm gv gc pc 3 gas ws C Ls Lc h8 hpc hC).mono fun e w' ⟨h1, h2⟩ => ⟨by rw [h1, ho]; rfl, h2⟩
  go_upto_region 7 with (go_at_call 21; refine HO.mono ?_; rintro e w9 ⟨rfl, b9⟩)
  have h9 := h8.below b9
  have T9 := T8.trans (Turn.of_below b9 (Nat.le_refl _) _)
  have k3 := k3.below b9 k3.lt
  have k7 := k7.below b9 k7.lt
  have k5 := k5.below b9 k5.lt
  have hg5' : g5 < w9.heap.size := k5.lt
  clear h8 T8 b9 HO
  go_upto_region 24 with (first | (refine wpList_load_mid rfl 65 (.tmp 3) rfl g3 0 rfl _ _ k3.cell Safg.under65 rfl Safg.size65 ?_) | (refine wpList_load_mid rfl 65 (.tmp 4) rfl g4 0 rfl _ _ k7.cell Safg.under65 rfl Safg.size65 ?_) | (go_at_call 226; refine (uop_29 w9 (ws 2) (ws 1) (ws 0).val a2 a1).mono ?_; rintro e w10 ⟨s, sok, sv, rfl, b10⟩; have k5 := k5.below b10 k5.lt) | (refine wpList_store_agg rfl 65 (.tmp 5) _ rfl g5 rfl _ s.cells rfl k5 rfl Safg.size65 (Wd4.one _) ?_; intro w11 k11 n11))
  have n5v : g5 ∉ [gm] := by simpa using n5
  have h10 := h9.below b10
  have T10 := T9.trans (Turn.of_below b10 (Nat.le_refl _) _)
  have h11 := h10.turn (Turn.of_only n11) (by simpa using Ne.symm n5) (by simpa using n5g) (by simpa using n5c)
  have T11 := T10.then_ (Turn.of_only n11) (fun i hi hl => absurd hl (by obtain rfl : i = g5 := (by simpa using hi); omega))
  have HS := settle_any w11 gm gv gc pc 3 gas 2 1 ws C Ls Lc s sok h11 (by omega) (by omega) (by omega) (by omega)
  clear h9 T9 h10 T10 b10 n11 k3 k7
  go_wp2_with (first | (refine wpList_load_mid rfl 65 (.tmp 5) rfl g5 0 rfl _ _ k11.cell Safg.under65 rfl Safg.size65 ?_) | (go_at_call 195; refine HS.mono ?_; rintro e w12 ⟨rfl, h12, T12⟩))
  go_end0
  exact ⟨s, sok, sv, rfl, h12, T11.trans T12⟩
end Go.Proofs.YgcsafGreat
