/-
  mem.Enter (181), code.Scan (179), move (184) of nothing.
-/
import Derived.Test.YgcsafGreatZero
import Derived.Test.YgcsafGreatMSm
namespace Go.Proofs.YgcsafGreat
open Go.RowKit
set_option linter.unusedVariables false
set_option linter.unusedSimpArgs false

set_option maxRecDepth 100000 in
set_option maxHeartbeats 2000000 in
theorem memEnter_any (w : World) (gm : Nat) (f : Nat → Value) (h : MB w gm f) (f10 : f 10 = .int .u8 0) (f2 : f 2 = .int .u32 0) (f3 : f 3 = .int .u32 0) :
    Calls Safg.prog 181 #[.pointer (some ⟨gm, 1, none⟩)] w fun e w' => e = .returned (.bool true) ∧ MB w' gm (upd f 10 (.int .u8 1)) ∧ ∃ w1, Same w w1 ∧ Only gm w1 w' := by
  have c10 := h.cell 10 (by omega)
  have c2 := h.cell 2 (by omega)
  have c3 := h.cell 3 (by omega)
  rw [f10] at c10
  rw [f2] at c2
  rw [f3] at c3
  have e3 : w.setCell ⟨gm, 3, none⟩ (.int .u32 0) = w := setCell_self c3
  have d3 := h.free 3
  have d10 := h.free 10
  go_enter Safg.func181, Safg.ntmps181
  go_upto_region 3 with fail
  have SD : w.drew.cell? ⟨gm, 10, none⟩ = some (.int .u8 0) ∧ w.drew.cell? ⟨gm, 2, none⟩ = some (.int .u32 0) := ⟨c10, c2⟩
  have c3' : w.drew.cell? ⟨gm, 3, none⟩ = some (.int .u32 0) := c3
  have d3' : w.drew.frozen? ⟨gm, 3, none⟩ = false := d3
  refine wp_region_held_drew (S := fun w' => w'.cell? ⟨gm, 10, none⟩ = some (.int .u8 0) ∧ w'.cell? ⟨gm, 2, none⟩ = some (.int .u32 0)) (by kernel_rfl) SD (fun hHeld => ?_)
  refine wpAnyH_take' (i := 0) (d := 8) rfl rfl (by kernel_rfl) (by kernel_rfl) (by kernel_rfl) (fun _ _ _ h => h) (Or.inl ⟨by rfl, fun w hw => by go_simp; try rfl⟩) hHeld ?_
  try simp only [Act.put, List.setIfInBounds_toArray, List.set_cons_zero, List.set_cons_succ]
  refine wpAnyH_take' (i := 1) (d := 9) rfl rfl (by kernel_rfl) (by kernel_rfl) (by kernel_rfl) (fun _ _ _ h => h) (Or.inl ⟨by rfl, fun w hw => by go_simp; try rfl⟩) hHeld ?_
  try simp only [Act.put, List.setIfInBounds_toArray, List.set_cons_zero, List.set_cons_succ]
  refine wpAnyH_take' (i := 2) (d := 10) rfl rfl (by kernel_rfl) (by kernel_rfl) (by kernel_rfl) (fun _ _ _ h => h) (Or.inl ⟨by rfl, fun w hw => by go_simp; try rfl⟩) hHeld ?_
  try simp only [Act.put, List.setIfInBounds_toArray, List.set_cons_zero, List.set_cons_succ]
  refine wpAnyH_take' (i := 3) (d := 11) rfl rfl (by kernel_rfl) (by kernel_rfl) (by kernel_rfl) (fun _ _ _ h => h) (Or.inl ⟨by rfl, fun w hw => by go_simp; try rfl⟩) hHeld ?_
  try simp only [Act.put, List.setIfInBounds_toArray, List.set_cons_zero, List.set_cons_succ]
  refine wpAnyH_take' (i := 4) (d := 12) rfl rfl (by kernel_rfl) (by kernel_rfl) (by kernel_rfl) (fun _ _ _ h => h) (Or.inl ⟨by rfl, fun w hw => by obtain ⟨h1, h2⟩ := hw; go_simp; try rfl⟩) hHeld ?_
  try simp only [Act.put, List.setIfInBounds_toArray, List.set_cons_zero, List.set_cons_succ]
  refine wpAnyH_take' (i := 5) (d := 13) (v := .int .u8 1) rfl rfl (by kernel_rfl) (by kernel_rfl) (by kernel_rfl) (fun _ _ _ h => h) (Or.inl ⟨by rfl, fun w hw => by go_simp; try rfl⟩) hHeld ?_
  try simp only [Act.put, List.setIfInBounds_toArray, List.set_cons_zero, List.set_cons_succ]
  refine wpAnyH_take' (i := 6) (d := 14) rfl rfl (by kernel_rfl) (by kernel_rfl) (by kernel_rfl) (fun _ _ _ h => h) (Or.inl ⟨by rfl, fun w hw => by go_simp; try rfl⟩) hHeld ?_
  try simp only [Act.put, List.setIfInBounds_toArray, List.set_cons_zero, List.set_cons_succ]
  refine wpAnyH_take' (i := 7) (d := 15) rfl rfl (by kernel_rfl) (by kernel_rfl) (by kernel_rfl) (fun _ _ _ h => h) (Or.inl ⟨by rfl, fun w hw => by go_simp; try rfl⟩) hHeld ?_
  try simp only [Act.put, List.setIfInBounds_toArray, List.set_cons_zero, List.set_cons_succ]
  refine wpAnyH_take' (i := 8) (d := 16) rfl rfl (by kernel_rfl) (by kernel_rfl) (by kernel_rfl) (fun _ _ _ h => h) (Or.inl ⟨by rfl, fun w hw => by go_simp; try rfl⟩) hHeld ?_
  try simp only [Act.put, List.setIfInBounds_toArray, List.set_cons_zero, List.set_cons_succ]
  refine wpAnyH_take' (i := 9) (d := 17) rfl rfl (by kernel_rfl) (by kernel_rfl) (by kernel_rfl) (fun _ _ _ h => h) (Or.inl ⟨by rfl, fun w hw => by go_simp; try rfl⟩) hHeld ?_
  try simp only [Act.put, List.setIfInBounds_toArray, List.set_cons_zero, List.set_cons_succ]
  refine wpAnyH_take' (i := 10) (d := 18) rfl rfl (by kernel_rfl) (by kernel_rfl) (by kernel_rfl) (fun _ _ _ h => h) (Or.inl ⟨by rfl, fun w hw => by obtain ⟨h1, h2⟩ := hw; go_simp; try rfl⟩) hHeld ?_
  try simp only [Act.put, List.setIfInBounds_toArray, List.set_cons_zero, List.set_cons_succ]
  refine wpAnyH_take' (i := 11) (d := 19) rfl rfl (by kernel_rfl) (by kernel_rfl) (by kernel_rfl) (fun _ _ _ h => h) (Or.inl ⟨by rfl, fun w hw => by go_simp; try rfl⟩) hHeld ?_
  try simp only [Act.put, List.setIfInBounds_toArray, List.set_cons_zero, List.set_cons_succ]
  refine wpAnyH_take' (i := 12) (d := 20) rfl rfl (by kernel_rfl) (by kernel_rfl) (by kernel_rfl) (fun _ _ _ h => h) (Or.inl ⟨by rfl, fun w hw => by go_simp; try rfl⟩) hHeld ?_
  try simp only [Act.put, List.setIfInBounds_toArray, List.set_cons_zero, List.set_cons_succ]
  refine wpAnyH_take' (i := 13) (d := 21) rfl rfl (by kernel_rfl) (by kernel_rfl) (by kernel_rfl) (fun _ _ _ h => h) (Or.inl ⟨by rfl, fun w hw => by go_simp; try rfl⟩) hHeld ?_
  try simp only [Act.put, List.setIfInBounds_toArray, List.set_cons_zero, List.set_cons_succ]
  refine wpAnyH_take' (i := 14) (d := 22) rfl rfl (by kernel_rfl) (by kernel_rfl) (by kernel_rfl) (fun _ _ _ h => h) (Or.inl ⟨by rfl, fun w hw => by obtain ⟨h1, h2⟩ := hw; go_simp; try rfl⟩) hHeld ?_
  try simp only [Act.put, List.setIfInBounds_toArray, List.set_cons_zero, List.set_cons_succ]
  refine wpAnyH_take' (i := 15) (d := 23) rfl rfl (by kernel_rfl) (by kernel_rfl) (by kernel_rfl) (fun _ _ _ h => h) (Or.inl ⟨by rfl, fun w hw => by go_simp; try rfl⟩) hHeld ?_
  try simp only [Act.put, List.setIfInBounds_toArray, List.set_cons_zero, List.set_cons_succ]
  refine wpAnyH_take' (i := 16) (d := 24) rfl rfl (by kernel_rfl) (by kernel_rfl) (by kernel_rfl) (fun _ _ _ h => h) (Or.inl ⟨by rfl, fun w hw => by go_simp; try rfl⟩) hHeld ?_
  try simp only [Act.put, List.setIfInBounds_toArray, List.set_cons_zero, List.set_cons_succ]
  refine wpAnyH_take' (i := 17) (d := 25) (v := .pointer (some ⟨gm, 3, none⟩)) rfl rfl (by kernel_rfl) (by kernel_rfl) (by kernel_rfl) (fun _ _ _ h => h) (Or.inl ⟨by rfl, fun w hw => by go_simp; try rfl⟩) hHeld ?_
  try simp only [Act.put, List.setIfInBounds_toArray, List.set_cons_zero, List.set_cons_succ]
  refine wpAnyH_oneK 18 (by kernel_rfl) rfl rfl ?_
  intro K hK
  go_simp
  try rw [e3]
  refine hK.out _ _ SD ?_
  clear hK K
  try simp only [Act.put, List.setIfInBounds_toArray, List.set_cons_zero, List.set_cons_succ]
  refine wpAnyH_done (by kernel_rfl) ?_ _
  have h' := h.drew
  have s' := Same.drew w
  have d10' : w.drew.frozen? ⟨gm, 10, none⟩ = false := d10
  clear hHeld c3' d3' e3 d3 d10 c10 c2 c3 h
  generalize w.drew = w2 at *
  have c10' := SD.1
  have m3 := h'.set (k := 10) (by omega) (.int .u8 1)
  have n3 := (Only.refl gm w2).setCell 10 (.int .u8 1)
  go_wp2
  go_ret
  exact ⟨rfl, m3, w2, s', n3⟩
set_option maxRecDepth 100000 in
theorem Safg.zero68 : (Safg.prog.info? 68).map (·.zero) = some (some (.agg (List.replicate 8 (Value.int .u64 0)).toArray)) := by kernel_rfl
set_option maxRecDepth 100000 in
theorem Safg.size68 : (Safg.prog.info? 68).map (·.size) = some 8 := by kernel_rfl
set_option maxRecDepth 100000 in
theorem Safg.under68 : Safg.prog.underlying 68 = some (.array 8 31) := by kernel_rfl
/-- The law's code: three pushes of 32 bytes and one instruction. -/
structure Code4 (C : List Nat) (o : Nat) : Prop where
  len : C.length = 100
  c0 : C.getD 0 0 = 127
  c1 : C.getD 33 0 = 127
  c2 : C.getD 66 0 = 127
  c3 : C.getD 99 0 = o
  o : o < 91
set_option maxRecDepth 100000 in
set_option maxHeartbeats 4000000 in
theorem scan_any (w : World) (gc o : Nat) (C : List Nat) (own : Own w gc C) (hC : Code4 C o) :
    Calls Safg.prog 179 #[.slice (some ⟨gc, 0, none⟩) 100 100] w fun e w' => e = .returned (.agg (List.replicate 8 (Value.int .u64 0)).toArray) ∧ Below w.heap.size w w' := by
  have ho := hC.o
  have hl := hC.len
  have t0 : ((o : Int) == 91) = false := by simp; omega
  go_enter Safg.func179, Safg.ntmps179
  go_upto_region 5 with (refine wpList_alloc_agg rfl 68 rfl _ Safg.zero68 ?_; first | ((fail_if_success (revert hg2)); intro w1 g2 hg2 k2 b1) | (intro w2 g3 hg3 k3 b2; have k2' := k2.below b2 k2.lt))
  have own2 := (own.below b1 own.lt).below b2 (Nat.lt_of_lt_of_le own.lt b1.size)
  have d0 := own2.cell 0 (by omega)
  have d1 := own2.cell 33 (by omega)
  have d2 := own2.cell 66 (by omega)
  have d3 := own2.cell 99 (by omega)
  rw [hC.c0] at d0
  rw [hC.c1] at d1
  rw [hC.c2] at d2
  rw [hC.c3] at d3
  have d0 : w2.cell? ⟨gc, 0, none⟩ = some (.int .u8 127) := d0
  have d1 : w2.cell? ⟨gc, 33, none⟩ = some (.int .u8 127) := d1
  have d2 : w2.cell? ⟨gc, 66, none⟩ = some (.int .u8 127) := d2
  have bb := b1.trans (b2.mono b1.size)
  have l1 := b1.size
  clear own own2 hC hl b1 b2
  go_loopw [4] (fun i wr => wr = w2 ∧ ∃ j : Nat, i = .int .i64 j ∧ (j = 0 ∨ j = 33 ∨ j = 66 ∨ j = 99 ∨ j = 100)) (fun i _ => 100 - (intOf i).toNat)
  case atStart => exact ⟨rfl, 0, rfl, .inl rfl⟩
  case round =>
    obtain ⟨rfl, j, rfl, hj⟩ := hrel
    rcases hj with rfl | rfl | rfl | rfl | rfl
    · go_wp2_with (go_at_call 295; refine (imm_push _).mono ?_; rintro e w4 ⟨rfl, rfl⟩)
      go_roundw
      case rel => exact ⟨trivial, 33, rfl, .inr (.inl rfl)⟩
      case measure => simp [intOf]
    · go_wp2_with (go_at_call 295; refine (imm_push _).mono ?_; rintro e w4 ⟨rfl, rfl⟩)
      go_roundw
      case rel => exact ⟨trivial, 66, rfl, .inr (.inr (.inl rfl))⟩
      case measure => simp [intOf]
    · go_wp2_with (go_at_call 295; refine (imm_push _).mono ?_; rintro e w4 ⟨rfl, rfl⟩)
      go_roundw
      case rel => exact ⟨trivial, 99, rfl, .inr (.inr (.inr (.inl rfl)))⟩
      case measure => simp [intOf]
    · go_wp2_with (go_at_call 295; refine (imm_low _ o (by omega)).mono ?_; rintro e w4 ⟨rfl, rfl⟩)
      go_roundw
      case rel => exact ⟨trivial, 100, rfl, .inr (.inr (.inr (.inr rfl)))⟩
      case measure => simp [intOf]
    · go_wp2_with (first | (refine wpList_load_mid rfl 68 (.tmp 3) rfl g3 0 rfl _ _ k3.cell Safg.under68 rfl Safg.size68 ?_) | (refine wpList_store_self rfl 68 (.tmp 2) _ rfl g2 0 _ rfl rfl k2'.cell k2'.free Safg.size68 (zeros_one 8) ?_))
      refine bodyPost_ret (results_cell1 Safg.results179 _ _ g2 _ _ rfl k2' Safg.under68 rfl Safg.size68) rfl ⟨rfl, bb⟩
set_option maxRecDepth 100000 in
set_option maxHeartbeats 2000000 in
theorem move_zero (w : World) (gm : Nat) (A A' : List Nat) (hA : A.length = 20) (hA' : A'.length = 20) :
    Calls Safg.prog 184 #[.pointer (some ⟨gm, 0, none⟩), arrV A, arrV A', Wd4.zero.v] w fun e w' => e = .returned (.bool true) ∧ Below w.heap.size w w' := by
  have HZ : ∀ w, Calls Safg.prog 205 #[Wd4.zero.v] w fun e w' => e = .returned (.bool true) ∧ Below w.heap.size w w' := fun w => (isZero_any w Wd4.zero zero_ok).mono fun e w' h => by
    rw [zero_val] at h
    simpa using h
  go_enter Safg.func184, Safg.ntmps184
  go_wp2_with (first | (refine wpList_box_arr rfl 33 (.tmp 1) rfl A rfl ?_; intro w1 g1 hg1 o1 b1) | (refine wpList_box_arr rfl 33 (.tmp 2) rfl A' rfl ?_; intro w2 g2 hg2 o2 b2) | (refine wpList_box_agg rfl 65 (.tmp 3) rfl Wd4.zero.cells rfl ?_; intro w3 g3 hg3 k3 b3) | (refine wpList_load_mid rfl 65 (.tmp 7) rfl g3 0 rfl _ _ k3.cell Safg.under65 rfl Safg.size65 ?_) | (go_at_call 205; refine (HZ _).mono ?_; rintro e w4 ⟨rfl, b4⟩))
  go_ret
  exact ⟨rfl, ((b1.trans (b2.mono b1.size)).trans (b3.mono (Nat.le_trans b1.size b2.size))).trans (b4.mono (Nat.le_trans b1.size (Nat.le_trans b2.size b3.size)))⟩
end Go.Proofs.YgcsafGreat
