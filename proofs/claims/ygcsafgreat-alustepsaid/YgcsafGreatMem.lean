/-
  The empty memory of a running machine: top (94), part (93), Len (29), Read (28); Refund (26).
-/
import Derived.Test.YgcsafGreatStep1
namespace Go.Proofs.YgcsafGreat
open Go.RowKit
set_option linter.unusedVariables false
set_option linter.unusedSimpArgs false

theorem Run.mcells {w : World} {gm gv gc pc sp gas : Nat} {ws : Nat → Wd4} {C Ls Lc : List Nat} (h : Run w gm gv gc pc sp gas ws C Ls Lc) : w.cell? ⟨gm, 10, none⟩ = some (.int .u8 1) ∧ w.cell? ⟨gm, 1, none⟩ = some (.slice none 0 0) ∧ w.cell? ⟨gm, 2, none⟩ = some (.int .u32 0) ∧ w.cell? ⟨gm, 3, none⟩ = some (.int .u32 0) ∧ w.cell? ⟨gm, 2259, none⟩ = some (.slice none 0 0) := by
  obtain ⟨f, m, mf⟩ := h.m
  exact ⟨by rw [m.cell 10 (by omega), mf.mtop], by rw [m.cell 1 (by omega), mf.buf], by rw [m.cell 2 (by omega), mf.base0], by rw [m.cell 3 (by omega), mf.base1], by rw [m.cell 2259 (by omega), mf.ret]⟩
section
variable (w : World) (gm gv gc pc sp gas : Nat) (ws : Nat → Wd4) (C Ls Lc : List Nat)
set_option maxRecDepth 100000 in
set_option maxHeartbeats 2000000 in
theorem top_any (h : Run w gm gv gc pc sp gas ws C Ls Lc) :
    Calls Safg.prog 94 #[.pointer (some ⟨gm, 1, none⟩)] w fun e w' => e = .returned (.tuple #[.slice none 0 0, .bool true]) ∧ Below w.heap.size w w' := by
  obtain ⟨c10, c1, c2, c3, cR⟩ := h.mcells
  go_enter Safg.func94, Safg.ntmps94
  go_upto_region 3 with fail
  refine wp_region_held_drew (S := fun w' => Run w' gm gv gc pc sp gas ws C Ls Lc) (by kernel_rfl) h.drew (fun hHeld => ?_)
  refine wpAnyH_take' (i := 0) (d := 18) rfl rfl (by kernel_rfl) (by kernel_rfl) (by kernel_rfl) (fun _ _ _ h => h) (Or.inl ⟨by rfl, fun w hw => by go_simp; try rfl⟩) hHeld ?_
  try simp only [Act.put, List.setIfInBounds_toArray, List.set_cons_zero, List.set_cons_succ]
  refine wpAnyH_take' (i := 1) (d := 19) rfl rfl (by kernel_rfl) (by kernel_rfl) (by kernel_rfl) (fun _ _ _ h => h) (Or.inl ⟨by rfl, fun w hw => by go_simp; try rfl⟩) hHeld ?_
  try simp only [Act.put, List.setIfInBounds_toArray, List.set_cons_zero, List.set_cons_succ]
  refine wpAnyH_take' (i := 2) (d := 20) rfl rfl (by kernel_rfl) (by kernel_rfl) (by kernel_rfl) (fun _ _ _ h => h) (Or.inl ⟨by rfl, fun w hw => by go_simp; try rfl⟩) hHeld ?_
  try simp only [Act.put, List.setIfInBounds_toArray, List.set_cons_zero, List.set_cons_succ]
  refine wpAnyH_take' (i := 3) (d := 21) rfl rfl (by kernel_rfl) (by kernel_rfl) (by kernel_rfl) (fun _ _ _ h => h) (Or.inl ⟨by rfl, fun w hw => by go_simp; try rfl⟩) hHeld ?_
  try simp only [Act.put, List.setIfInBounds_toArray, List.set_cons_zero, List.set_cons_succ]
  refine wpAnyH_take' (i := 4) (d := 22) rfl rfl (by kernel_rfl) (by kernel_rfl) (by kernel_rfl) (fun _ _ _ h => h) (Or.inl ⟨by rfl, fun w hw => by obtain ⟨c10, c1, c2, c3, cR⟩ := hw.mcells; go_simp; try rfl⟩) hHeld ?_
  try simp only [Act.put, List.setIfInBounds_toArray, List.set_cons_zero, List.set_cons_succ]
  refine wpAnyH_take' (i := 5) (d := 23) (v := .int .u8 0) rfl rfl (by kernel_rfl) (by kernel_rfl) (by kernel_rfl) (fun _ _ _ h => h) (Or.inl ⟨by rfl, fun w hw => by go_simp; try rfl⟩) hHeld ?_
  try simp only [Act.put, List.setIfInBounds_toArray, List.set_cons_zero, List.set_cons_succ]
  refine wpAnyH_take' (i := 6) (d := 24) rfl rfl (by kernel_rfl) (by kernel_rfl) (by kernel_rfl) (fun _ _ _ h => h) (Or.inl ⟨by rfl, fun w hw => by go_simp; try rfl⟩) hHeld ?_
  try simp only [Act.put, List.setIfInBounds_toArray, List.set_cons_zero, List.set_cons_succ]
  refine wpAnyH_take' (i := 7) (d := 25) rfl rfl (by kernel_rfl) (by kernel_rfl) (by kernel_rfl) (fun _ _ _ h => h) (Or.inl ⟨by rfl, fun w hw => by go_simp; try rfl⟩) hHeld ?_
  try simp only [Act.put, List.setIfInBounds_toArray, List.set_cons_zero, List.set_cons_succ]
  refine wpAnyH_take' (i := 8) (d := 26) (v := .pointer (some ⟨gm, 2, none⟩)) rfl rfl (by kernel_rfl) (by kernel_rfl) (by kernel_rfl) (fun _ _ _ h => h) (Or.inl ⟨by rfl, fun w hw => by go_simp; try rfl⟩) hHeld ?_
  try simp only [Act.put, List.setIfInBounds_toArray, List.set_cons_zero, List.set_cons_succ]
  refine wpAnyH_take' (i := 9) (d := 27) rfl rfl (by kernel_rfl) (by kernel_rfl) (by kernel_rfl) (fun _ _ _ h => h) (Or.inl ⟨by rfl, fun w hw => by obtain ⟨c10, c1, c2, c3, cR⟩ := hw.mcells; go_simp; try rfl⟩) hHeld ?_
  try simp only [Act.put, List.setIfInBounds_toArray, List.set_cons_zero, List.set_cons_succ]
  refine wpAnyH_take' (i := 10) (d := 4) rfl rfl (by kernel_rfl) (by kernel_rfl) (by kernel_rfl) (fun _ _ _ h => h) (Or.inl ⟨by rfl, fun w hw => by go_simp; try rfl⟩) hHeld ?_
  try simp only [Act.put, List.setIfInBounds_toArray, List.set_cons_zero, List.set_cons_succ]
  refine wpAnyH_done (by kernel_rfl) ?_ _
  have b1 := Turn.drew_below w
  clear h c10 c1 c2 c3 cR
  generalize w.drew = w1 at *
  go_upto_region 4 with fail
  refine wp_region_held_drew (S := fun w' => Run w' gm gv gc pc sp gas ws C Ls Lc) (by kernel_rfl) hHeld.drew (fun hHeld2 => ?_)
  refine wpAnyH_take' (i := 0) (d := 28) rfl rfl (by kernel_rfl) (by kernel_rfl) (by kernel_rfl) (fun _ _ _ h => h) (Or.inl ⟨by rfl, fun w hw => by go_simp; try rfl⟩) hHeld2 ?_
  try simp only [Act.put, List.setIfInBounds_toArray, List.set_cons_zero, List.set_cons_succ]
  refine wpAnyH_take' (i := 1) (d := 29) rfl rfl (by kernel_rfl) (by kernel_rfl) (by kernel_rfl) (fun _ _ _ h => h) (Or.inl ⟨by rfl, fun w hw => by go_simp; try rfl⟩) hHeld2 ?_
  try simp only [Act.put, List.setIfInBounds_toArray, List.set_cons_zero, List.set_cons_succ]
  refine wpAnyH_take' (i := 2) (d := 30) rfl rfl (by kernel_rfl) (by kernel_rfl) (by kernel_rfl) (fun _ _ _ h => h) (Or.inl ⟨by rfl, fun w hw => by go_simp; try rfl⟩) hHeld2 ?_
  try simp only [Act.put, List.setIfInBounds_toArray, List.set_cons_zero, List.set_cons_succ]
  refine wpAnyH_take' (i := 3) (d := 31) rfl rfl (by kernel_rfl) (by kernel_rfl) (by kernel_rfl) (fun _ _ _ h => h) (Or.inl ⟨by rfl, fun w hw => by go_simp; try rfl⟩) hHeld2 ?_
  try simp only [Act.put, List.setIfInBounds_toArray, List.set_cons_zero, List.set_cons_succ]
  refine wpAnyH_take' (i := 4) (d := 32) rfl rfl (by kernel_rfl) (by kernel_rfl) (by kernel_rfl) (fun _ _ _ h => h) (Or.inl ⟨by rfl, fun w hw => by obtain ⟨c10, c1, c2, c3, cR⟩ := hw.mcells; go_simp; try rfl⟩) hHeld2 ?_
  try simp only [Act.put, List.setIfInBounds_toArray, List.set_cons_zero, List.set_cons_succ]
  refine wpAnyH_take' (i := 5) (d := 33) rfl rfl (by kernel_rfl) (by kernel_rfl) (by kernel_rfl) (fun _ _ _ h => h) (Or.inl ⟨by rfl, fun w hw => by go_simp; try rfl⟩) hHeld2 ?_
  try simp only [Act.put, List.setIfInBounds_toArray, List.set_cons_zero, List.set_cons_succ]
  refine wpAnyH_take' (i := 6) (d := 34) rfl rfl (by kernel_rfl) (by kernel_rfl) (by kernel_rfl) (fun _ _ _ h => h) (Or.inl ⟨by rfl, fun w hw => by go_simp; try rfl⟩) hHeld2 ?_
  try simp only [Act.put, List.setIfInBounds_toArray, List.set_cons_zero, List.set_cons_succ]
  refine wpAnyH_take' (i := 7) (d := 35) (v := .pointer (some ⟨gm, 3, none⟩)) rfl rfl (by kernel_rfl) (by kernel_rfl) (by kernel_rfl) (fun _ _ _ h => h) (Or.inl ⟨by rfl, fun w hw => by go_simp; try rfl⟩) hHeld2 ?_
  try simp only [Act.put, List.setIfInBounds_toArray, List.set_cons_zero, List.set_cons_succ]
  refine wpAnyH_take' (i := 8) (d := 36) rfl rfl (by kernel_rfl) (by kernel_rfl) (by kernel_rfl) (fun _ _ _ h => h) (Or.inl ⟨by rfl, fun w hw => by obtain ⟨c10, c1, c2, c3, cR⟩ := hw.mcells; go_simp; try rfl⟩) hHeld2 ?_
  try simp only [Act.put, List.setIfInBounds_toArray, List.set_cons_zero, List.set_cons_succ]
  refine wpAnyH_take' (i := 9) (d := 5) rfl rfl (by kernel_rfl) (by kernel_rfl) (by kernel_rfl) (fun _ _ _ h => h) (Or.inl ⟨by rfl, fun w hw => by go_simp; try rfl⟩) hHeld2 ?_
  try simp only [Act.put, List.setIfInBounds_toArray, List.set_cons_zero, List.set_cons_succ]
  refine wpAnyH_done (by kernel_rfl) ?_ _
  have b2 := b1.trans ((Turn.drew_below w1).mono b1.size)
  clear hHeld
  generalize w1.drew = w2 at *
  obtain ⟨c10, c1, c2, c3, cR⟩ := hHeld2.mcells
  go_wp2
  refine bodyPost_ret (v := .tuple #[.slice none 0 0, .bool true]) ?_ rfl ⟨rfl, b2⟩
  simp [results, Safg.results94]
set_option maxRecDepth 100000 in
set_option maxHeartbeats 1000000 in
theorem len_any (h : Run w gm gv gc pc sp gas ws C Ls Lc) :
    Calls Safg.prog 29 #[.pointer (some ⟨gm, 1, none⟩)] w fun e w' => e = .returned (.int .u32 0) ∧ Below w.heap.size w w' := by
  have HT := top_any w gm gv gc pc sp gas ws C Ls Lc h
  go_enter Safg.func29, Safg.ntmps29
  go_wp2_with (go_at_call 94; refine HT.mono ?_; rintro e w1 ⟨rfl, b1⟩)
  go_ret
  exact ⟨rfl, b1⟩
set_option maxRecDepth 100000 in
set_option maxHeartbeats 1000000 in
theorem part_any (h : Run w gm gv gc pc sp gas ws C Ls Lc) :
    Calls Safg.prog 93 #[.pointer (some ⟨gm, 1, none⟩), .int .u32 0, .int .u32 0] w fun e w' => e = .returned (.tuple #[.slice none 0 0, .bool true]) ∧ Below w.heap.size w w' := by
  have HT := top_any w gm gv gc pc sp gas ws C Ls Lc h
  go_enter Safg.func93, Safg.ntmps93
  go_wp2_with (go_at_call 94; refine HT.mono ?_; rintro e w1 ⟨rfl, b1⟩)
  refine bodyPost_ret (v := .tuple #[.slice none 0 0, .bool true]) ?_ rfl ⟨rfl, b1⟩
  simp [results, Safg.results93]
set_option maxRecDepth 100000 in
set_option maxHeartbeats 1000000 in
theorem read_any (h : Run w gm gv gc pc sp gas ws C Ls Lc) :
    Calls Safg.prog 28 #[.pointer (some ⟨gm, 1, none⟩), .int .u32 0, .int .u32 0] w fun e w' => e = .returned (.slice none 0 0) ∧ Below w.heap.size w w' := by
  have HT := part_any w gm gv gc pc sp gas ws C Ls Lc h
  go_enter Safg.func28, Safg.ntmps28
  go_wp2_with (go_at_call 93; refine HT.mono ?_; rintro e w1 ⟨rfl, b1⟩)
  go_ret
  exact ⟨rfl, b1⟩
set_option maxRecDepth 100000 in
set_option maxHeartbeats 1000000 in
theorem refund_run (h : Run w gm gv gc pc sp gas ws C Ls Lc) :
    Calls Safg.prog 26 #[.pointer (some ⟨gv, 0, none⟩)] w fun e w' => e = .returned (.int .u64 0) ∧ w' = w := by
  have c := h.cR
  clear h
  go_enter Safg.func26, Safg.ntmps26
  go_wp2
  go_ret
  exact ⟨rfl, rfl⟩
end
end Go.Proofs.YgcsafGreat
