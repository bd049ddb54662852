/-
  The words' functions at zero.
-/
import Derived.Test.YgcsafGreatOS
import Derived.Test.YgcsafGreatMulW2
import Derived.Test.YgcsafGreatBE64
namespace Go.Proofs.YgcsafGreat
open Go.RowKit
set_option linter.unusedVariables false
set_option linter.unusedSimpArgs false

theorem zero_of_val {s : Wd4} (h : s.val = 0) : s = Wd4.zero := by
  obtain ⟨x0, x1, x2, x3⟩ := s
  unfold Wd4.val at h
  rw [b64_eq] at h
  simp only at h
  obtain ⟨rfl, rfl, rfl, rfl⟩ : x0 = 0 ∧ x1 = 0 ∧ x2 = 0 ∧ x3 = 0 := by omega
  rfl
theorem zero_val : Wd4.zero.val = 0 := by decide
theorem addOver_00 (w : World) : Calls Safg.prog 163 #[Wd4.zero.v, Wd4.zero.v] w fun e w' => e = .returned (.tuple #[Wd4.zero.v, .bool false]) ∧ Below w.heap.size w w' :=
  (addOver_any w _ _ zero_ok zero_ok).mono fun e w' ⟨s, k, _, hk, hs, he, b⟩ => by
    rw [zero_val] at hs
    have hs : s.val + b256 * k = 0 := hs
    have h0 : s.val = 0 := by omega
    have hk0 : b256 * k = 0 := by omega
    have hk1 : k = 0 := by
      rcases Nat.mul_eq_zero.1 hk0 with h | h
      · exact absurd h (by decide)
      · exact h
    rw [he, zero_of_val h0, hk1]
    exact ⟨rfl, b⟩
theorem uLt_x0 (w : World) (a : Wd4) (ha : a.Ok) : Calls Safg.prog 164 #[a.v, Wd4.zero.v] w fun e w' => e = .returned (.bool false) ∧ Below w.heap.size w w' :=
  (uLt_any w a _ ha zero_ok).mono fun e w' h => by
    rw [zero_val] at h
    simpa using h
theorem uGt_00 (w : World) : Calls Safg.prog 165 #[Wd4.zero.v, Wd4.zero.v] w fun e w' => e = .returned (.bool false) ∧ Below w.heap.size w w' :=
  (uGt_any w _ _ zero_ok zero_ok).mono fun e w' h => by
    rw [zero_val] at h
    simpa using h
theorem uSub_00 (w : World) : Calls Safg.prog 59 #[Wd4.zero.v, Wd4.zero.v] w fun e w' => e = .returned Wd4.zero.v ∧ Below w.heap.size w w' :=
  (uSub_any w _ _ zero_ok zero_ok).mono fun e w' ⟨s, _, hs, he, b⟩ => by
    rw [zero_val] at hs
    have h0 : s.val = 0 := by rw [hs]; decide
    rw [he, zero_of_val h0]
    exact ⟨rfl, b⟩
theorem uAdd_00 (w : World) : Calls Safg.prog 166 #[Wd4.zero.v, Wd4.zero.v] w fun e w' => e = .returned Wd4.zero.v ∧ Below w.heap.size w w' :=
  (uAdd_any w _ _ zero_ok zero_ok).mono fun e w' ⟨s, _, hs, he, b⟩ => by
    rw [zero_val] at hs
    have h0 : s.val = 0 := by rw [hs]; decide
    rw [he, zero_of_val h0]
    exact ⟨rfl, b⟩
theorem mulW_x0 (w : World) (a : Wd4) (ha : a.Ok) : Calls Safg.prog 56 #[a.v, Wd4.zero.v] w fun e w' => e = .returned Wd4.zero.v ∧ Below w.heap.size w w' :=
  (mulW_any w a _ ha zero_ok).mono fun e w' ⟨s, _, hs, he, b⟩ => by
    rw [zero_val] at hs
    have h0 : s.val = 0 := by rw [hs, Nat.mul_zero]; decide
    rw [he, zero_of_val h0]
    exact ⟨rfl, b⟩
theorem mul512_x0 (w : World) (a : Wd4) (ha : a.Ok) : Calls Safg.prog 303 #[a.v, Wd4.zero.v] w fun e w' => e = .returned (.agg (List.replicate 8 (Value.int .u64 0)).toArray) ∧ Below w.heap.size w w' :=
  (mul512_any w a _ ha zero_ok).mono fun e w' ⟨lo, hi, _, _, hs, he, b⟩ => by
    rw [zero_val, Nat.mul_zero] at hs
    have h0 : lo.val = 0 := by omega
    have hk0 : b256 * hi.val = 0 := by omega
    have h1 : hi.val = 0 := by
      rcases Nat.mul_eq_zero.1 hk0 with h | h
      · exact absurd h (by decide)
      · exact h
    rw [he, zero_of_val h0, zero_of_val h1]
    exact ⟨rfl, b⟩
/-- What is stored stands there already. -/
theorem wpList_store_self {ops : Array Oper} {rest : List Oper} {op : Oper} {a : Act} {w : World} {Q : Exit → Act → World → Prop} (hgd : op.guard = none) (ty : TypeId) (x y : Operand) (ho : op.op = .store ty x y)
    (g o : Nat) (cs : List Value) (hx : a.eval x = .pointer (some ⟨g, o, none⟩)) (hy : a.eval y = .agg cs.toArray) (hr : w.rangeAt g o cs) (hf : ∀ o, w.frozen? ⟨g, o, none⟩ = false) (hi : (Safg.prog.info? ty).map (·.size) = some cs.length) (h1 : ∀ v ∈ cs, v.oneCell' = true)
    (h : wpList Safg.prog ops Q rest (a.put op.dst undef) w) : wpList Safg.prog ops Q (op :: rest) a w := by
  refine wpList_store_mid hgd ty x y ho g o cs.toArray hx hy (fun j hj => ⟨?_, hf _⟩) (by rw [hi]; simp) (all_oneCell_toArray h1) ?_
  · have hj : j < cs.length := by simpa using hj
    rw [hr j _ (List.getElem?_eq_getElem hj)]; rfl
  · rw [List.toList_toArray, setCells_self cs o hr]; exact h
theorem wp_store_self {op : Oper} {a : Act} {w : World} {K : Act → World → Prop} {Q : Exit → Act → World → Prop} (ty : TypeId) (x y : Operand) (ho : op.op = .store ty x y)
    (g o : Nat) (cs : List Value) (hx : a.eval x = .pointer (some ⟨g, o, none⟩)) (hy : a.eval y = .agg cs.toArray) (hr : w.rangeAt g o cs) (hf : ∀ o, w.frozen? ⟨g, o, none⟩ = false) (hi : (Safg.prog.info? ty).map (·.size) = some cs.length) (h1 : ∀ v ∈ cs, v.oneCell' = true)
    (h : K (a.put op.dst undef) w) : op.wp Safg.prog a w K Q := by
  refine wp_store_mid ty x y ho g o cs.toArray hx hy (fun j hj => ⟨?_, hf _⟩) (by rw [hi]; simp) (all_oneCell_toArray h1) ?_
  · have hj : j < cs.length := by simpa using hj
    rw [hr j _ (List.getElem?_eq_getElem hj)]; rfl
  · rw [List.toList_toArray, setCells_self cs o hr]; exact h
set_option maxRecDepth 100000 in
theorem Safg.zero67' : (Safg.prog.info? 67).map (·.zero) = some (some (.agg (List.replicate 8 (Value.int .u64 0)).toArray)) := by kernel_rfl
set_option maxRecDepth 100000 in
theorem Safg.size67' : (Safg.prog.info? 67).map (·.size) = some 8 := by kernel_rfl
theorem zeros_one (n : Nat) : ∀ v ∈ List.replicate n (Value.int .u64 0), v.oneCell' = true := by
  intro v hv
  rw [(List.mem_replicate.1 hv).2]; rfl
set_option maxRecDepth 100000 in
set_option maxHeartbeats 2000000 in
theorem mulOver_x0 (w : World) (a : Wd4) (ha : a.Ok) : Calls Safg.prog 162 #[a.v, Wd4.zero.v] w fun e w' => e = .returned (.tuple #[Wd4.zero.v, .bool false]) ∧ Below w.heap.size w w' := by
  have z0 : bits BinOp.or IntKind.u64 0 0 = 0 := by have := u64_or_nat 0 0 (by decide) (by decide); simpa using this
  go_enter Safg.func162, Safg.ntmps162
  go_upto_region 1 with (first | (refine wpList_box_agg rfl 65 (.tmp 0) rfl a.cells rfl ?_; intro w1 g2 hg2 k2 c2) | (refine wpList_box_agg rfl 65 (.tmp 1) rfl Wd4.zero.cells rfl ?_; intro w2 g3 hg3 k3 c3) | (refine wpList_alloc_agg rfl 65 rfl _ Safg.zero65 ?_; intro w3 g4 hg4 k4 c4))
  have k2' := (k2.below c3 k2.lt).below c4 (Nat.lt_of_lt_of_le k2.lt c3.size)
  have k3' := k3.below c4 k3.lt
  have s1 := c2.size; have s2 := c3.size; have s3 := c4.size
  have bb : Below w.heap.size w w3 := (c2.trans (c3.mono s1)).trans (c4.mono (by omega))
  go_upto_region 2 with (first | (refine wpList_load_mid rfl 65 (.tmp 2) rfl g2 0 rfl _ _ k2'.cell Safg.under65 rfl Safg.size65 ?_) | (refine wpList_load_mid rfl 65 (.tmp 3) rfl g3 0 rfl _ _ k3'.cell Safg.under65 rfl Safg.size65 ?_) | (go_at_call 303; refine (mul512_x0 _ a ha).mono ?_; rintro e w4 ⟨rfl, b4⟩) | (refine wpList_alloc_agg rfl 67 rfl _ Safg.zero67' ?_; intro w5 g6 hg6 k6 c6) | (refine wpList_store_self rfl 67 _ _ rfl g6 0 (List.replicate 8 (Value.int .u64 0)) rfl rfl k6.cell k6.free Safg.size67' (zeros_one 8) ?_))
  have s4 := b4.size; have s5 := c6.size
  have m4 := (k4.below b4 k4.lt).below c6 (Nat.lt_of_lt_of_le k4.lt b4.size)
  have BB : Below w.heap.size w w5 := (bb.trans (b4.mono (by omega))).trans (c6.mono (by omega))
  clear k2 k3 k2' k3' c2 c3 c4 b4 c6 k4 bb
  refine wp_region_held_drew (S := fun w' => Blk w' g6 (List.replicate 8 (Value.int .u64 0))) (by kernel_rfl) ((Same.drew w5).blk k6) (fun hHeld => ?_)
  refine wpAnyH_take' (i := 0) (d := 10) rfl rfl (by kernel_rfl) (by kernel_rfl) (by kernel_rfl) (fun _ _ _ h => h) (Or.inl ⟨by rfl, fun w hw => by go_simp; try rfl⟩) hHeld ?_
  try simp only [Act.put, List.setIfInBounds_toArray, List.set_cons_zero, List.set_cons_succ]
  refine wpAnyH_take' (i := 1) (d := 11) rfl rfl (by kernel_rfl) (by kernel_rfl) (by kernel_rfl) (fun _ _ _ h => h) (Or.inl ⟨by rfl, fun w hw => by go_simp; try rfl⟩) hHeld ?_
  try simp only [Act.put, List.setIfInBounds_toArray, List.set_cons_zero, List.set_cons_succ]
  refine wpAnyH_take' (i := 2) (d := 12) rfl rfl (by kernel_rfl) (by kernel_rfl) (by kernel_rfl) (fun _ _ _ h => h) (yieldsIf_load_mid (by rfl) 65 _ rfl g6 0 rfl Wd4.zero.cells _ (fun w hw => fun j v hv => hw.cell j v (by match j, hv with | 0, hv => exact hv | 1, hv => exact hv | 2, hv => exact hv | 3, hv => exact hv)) Safg.under65 rfl Safg.size65) hHeld ?_
  try simp only [Act.put, List.setIfInBounds_toArray, List.set_cons_zero, List.set_cons_succ]
  refine wpAnyH_take' (i := 3) (d := 13) rfl rfl (by kernel_rfl) (by kernel_rfl) (by kernel_rfl) (fun _ _ _ h => h) (Or.inl ⟨by rfl, fun w hw => by go_simp; try rfl⟩) hHeld ?_
  try simp only [Act.put, List.setIfInBounds_toArray, List.set_cons_zero, List.set_cons_succ]
  refine wpAnyH_take' (i := 4) (d := 14) rfl rfl (by kernel_rfl) (by kernel_rfl) (by kernel_rfl) (fun _ _ _ h => h) (Or.inl ⟨by rfl, fun w hw => by have d4 := hw.get (j := 4) (v := .int .u64 0) rfl; have d5 := hw.get (j := 5) (v := .int .u64 0) rfl; have d6 := hw.get (j := 6) (v := .int .u64 0) rfl; have d7 := hw.get (j := 7) (v := .int .u64 0) rfl; go_simp; try rfl⟩) hHeld ?_
  try simp only [Act.put, List.setIfInBounds_toArray, List.set_cons_zero, List.set_cons_succ]
  refine wpAnyH_take' (i := 5) (d := 15) rfl rfl (by kernel_rfl) (by kernel_rfl) (by kernel_rfl) (fun _ _ _ h => h) (Or.inl ⟨by rfl, fun w hw => by go_simp; try rfl⟩) hHeld ?_
  try simp only [Act.put, List.setIfInBounds_toArray, List.set_cons_zero, List.set_cons_succ]
  refine wpAnyH_take' (i := 6) (d := 16) rfl rfl (by kernel_rfl) (by kernel_rfl) (by kernel_rfl) (fun _ _ _ h => h) (Or.inl ⟨by rfl, fun w hw => by have d4 := hw.get (j := 4) (v := .int .u64 0) rfl; have d5 := hw.get (j := 5) (v := .int .u64 0) rfl; have d6 := hw.get (j := 6) (v := .int .u64 0) rfl; have d7 := hw.get (j := 7) (v := .int .u64 0) rfl; go_simp; try rfl⟩) hHeld ?_
  try simp only [Act.put, List.setIfInBounds_toArray, List.set_cons_zero, List.set_cons_succ]
  refine wpAnyH_take' (i := 7) (d := 17) (v := .int .u64 0) rfl rfl (by kernel_rfl) (by kernel_rfl) (by kernel_rfl) (fun _ _ _ h => h) (Or.inl ⟨by rfl, fun w hw => by go_simp; first | done | exact z0⟩) hHeld ?_
  try simp only [Act.put, List.setIfInBounds_toArray, List.set_cons_zero, List.set_cons_succ]
  refine wpAnyH_take' (i := 8) (d := 18) rfl rfl (by kernel_rfl) (by kernel_rfl) (by kernel_rfl) (fun _ _ _ h => h) (Or.inl ⟨by rfl, fun w hw => by go_simp; try rfl⟩) hHeld ?_
  try simp only [Act.put, List.setIfInBounds_toArray, List.set_cons_zero, List.set_cons_succ]
  refine wpAnyH_take' (i := 9) (d := 19) rfl rfl (by kernel_rfl) (by kernel_rfl) (by kernel_rfl) (fun _ _ _ h => h) (Or.inl ⟨by rfl, fun w hw => by have d4 := hw.get (j := 4) (v := .int .u64 0) rfl; have d5 := hw.get (j := 5) (v := .int .u64 0) rfl; have d6 := hw.get (j := 6) (v := .int .u64 0) rfl; have d7 := hw.get (j := 7) (v := .int .u64 0) rfl; go_simp; try rfl⟩) hHeld ?_
  try simp only [Act.put, List.setIfInBounds_toArray, List.set_cons_zero, List.set_cons_succ]
  refine wpAnyH_take' (i := 10) (d := 20) (v := .int .u64 0) rfl rfl (by kernel_rfl) (by kernel_rfl) (by kernel_rfl) (fun _ _ _ h => h) (Or.inl ⟨by rfl, fun w hw => by go_simp; first | done | exact z0⟩) hHeld ?_
  try simp only [Act.put, List.setIfInBounds_toArray, List.set_cons_zero, List.set_cons_succ]
  refine wpAnyH_take' (i := 11) (d := 21) rfl rfl (by kernel_rfl) (by kernel_rfl) (by kernel_rfl) (fun _ _ _ h => h) (Or.inl ⟨by rfl, fun w hw => by go_simp; try rfl⟩) hHeld ?_
  try simp only [Act.put, List.setIfInBounds_toArray, List.set_cons_zero, List.set_cons_succ]
  refine wpAnyH_take' (i := 12) (d := 22) rfl rfl (by kernel_rfl) (by kernel_rfl) (by kernel_rfl) (fun _ _ _ h => h) (Or.inl ⟨by rfl, fun w hw => by have d4 := hw.get (j := 4) (v := .int .u64 0) rfl; have d5 := hw.get (j := 5) (v := .int .u64 0) rfl; have d6 := hw.get (j := 6) (v := .int .u64 0) rfl; have d7 := hw.get (j := 7) (v := .int .u64 0) rfl; go_simp; try rfl⟩) hHeld ?_
  try simp only [Act.put, List.setIfInBounds_toArray, List.set_cons_zero, List.set_cons_succ]
  refine wpAnyH_take' (i := 13) (d := 23) (v := .int .u64 0) rfl rfl (by kernel_rfl) (by kernel_rfl) (by kernel_rfl) (fun _ _ _ h => h) (Or.inl ⟨by rfl, fun w hw => by go_simp; first | done | exact z0⟩) hHeld ?_
  try simp only [Act.put, List.setIfInBounds_toArray, List.set_cons_zero, List.set_cons_succ]
  refine wpAnyH_take' (i := 14) (d := 24) rfl rfl (by kernel_rfl) (by kernel_rfl) (by kernel_rfl) (fun _ _ _ h => h) (Or.inl ⟨by rfl, fun w hw => by go_simp; try rfl⟩) hHeld ?_
  try simp only [Act.put, List.setIfInBounds_toArray, List.set_cons_zero, List.set_cons_succ]
  have n4 := (Same.drew w5).blk m4
  refine wpAnyH_one 15 (by kernel_rfl) rfl rfl ?_
  refine wp_store_self 65 _ _ rfl g4 0 Wd4.zero.cells rfl rfl n4.cell n4.free Safg.size65 (Wd4.one _) ?_
  refine ⟨hHeld, ?_⟩
  try simp only [Act.put, List.setIfInBounds_toArray, List.set_cons_zero, List.set_cons_succ]
  refine wpAnyH_take' (i := 16) (d := 5) rfl rfl (by kernel_rfl) (by kernel_rfl) (by kernel_rfl) (fun _ _ _ h => h) (Or.inl ⟨by rfl, fun w hw => by go_simp; try rfl⟩) hHeld ?_
  try simp only [Act.put, List.setIfInBounds_toArray, List.set_cons_zero, List.set_cons_succ]
  refine wpAnyH_done (by kernel_rfl) ?_ _
  go_wp2
  have hload := run_loadVar_mid (P := Safg.prog) w5.drew g4 0 65 _ _ n4.cell Safg.under65 rfl Safg.size65
  refine bodyPost_ret (v := .tuple #[Wd4.zero.v, .bool false]) ?_ rfl ⟨rfl, BB.trans ((Turn.drew_below w5).mono BB.size)⟩
  rw [results_cell_tmp Safg.results162]
  simp [asAddr, hload, Wd4.v]
end Go.Proofs.YgcsafGreat
