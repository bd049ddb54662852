/-
  A running machine's small functions: running (25), Opcode (21), RunNative (20), arg (199), settle (195).
-/
import Derived.Test.YgcsafGreatMF
namespace Go.Proofs.YgcsafGreat
open Go.RowKit
set_option linter.unusedVariables false
set_option linter.unusedSimpArgs false

theorem OS.blk_turn' {w w' : World} {S : List Nat} {g : Nat} {cs : List Value} (h : Blk w g cs) (t : Turn S w w') (hn : g ∉ S) : Blk w' g cs :=
  ⟨Nat.lt_of_lt_of_le h.lt t.size, fun j v hv => by rw [t.cell (p := ⟨g, 0 + j, none⟩) h.lt hn]; exact h.cell j v hv, fun o => by rw [t.frozen (p := ⟨g, o, none⟩) h.lt hn]; exact h.free o⟩
theorem Blk.off {w : World} {g gm o : Nat} {cs vs : List Value} (h : Blk w g cs) (hne : g ≠ gm) : Blk (w.setCells gm o vs) g cs :=
  OS.blk_turn' h (Turn.of_only (Only.setCells _ _ (Only.refl _ _))) (by simpa using hne)
section
variable {w : World} {gm gv gc pc sp gas : Nat} {ws : Nat → Wd4} {C Ls Lc : List Nat}
theorem Run.cells (h : Run w gm gv gc pc sp gas ws C Ls Lc) : w.cell? ⟨gm, 0, none⟩ = some (.pointer (some ⟨gv, 0, none⟩)) ∧ w.cell? ⟨gm, 2404, none⟩ = some (.int .u8 1) ∧ w.cell? ⟨gm, 2258, none⟩ = some (.int .i8 0) ∧ w.cell? ⟨gm, 1805, none⟩ = some (.int .u8 0) ∧ w.cell? ⟨gm, 1806, none⟩ = some (.bool false) ∧ w.cell? ⟨gm, 1807, none⟩ = some (.int .u16 (pc : Int)) ∧ w.cell? ⟨gm, 1808, none⟩ = some (.int .u16 0) ∧ w.cell? ⟨gm, 1809, none⟩ = some (.int .u16 (sp : Int)) ∧ w.cell? ⟨gm, 1810, none⟩ = some (.int .u64 (gas : Int)) ∧ w.cell? ⟨gm, 1856, none⟩ = some (.slice (some ⟨gc, 0, none⟩) C.length C.length) := by
  obtain ⟨f, m, mf⟩ := h.m
  exact ⟨by rw [m.cell 0 (by omega), mf.s], by rw [m.cell 2404 (by omega), mf.phase], by rw [m.cell 2258 (by omega), mf.top], by rw [m.cell 1805 (by omega), mf.native], by rw [m.cell 1806 (by omega), mf.static], by rw [m.cell 1807 (by omega), mf.hpc], by rw [m.cell 1808 (by omega), mf.sbase], by rw [m.cell 1809 (by omega), mf.hsp], by rw [m.cell 1810 (by omega), mf.hgas], by rw [m.cell 1856 (by omega), mf.code]⟩
theorem Run.word (h : Run w gm gv gc pc sp gas ws C Ls Lc) (hs : sp ≤ 64) {j : Nat} (hj : j < sp) : w.rangeAt gm (11 + j * 4) (ws j).cells := by
  obtain ⟨f, m, mf⟩ := h.m
  rw [Nat.mul_comm]
  exact m.range (by show 11 + 4 * j + 4 ≤ 2435; omega) (mf.words j hj)
end
set_option maxRecDepth 100000 in
set_option maxHeartbeats 1000000 in
theorem running_any (w : World) (gm gv gc pc sp gas : Nat) (ws : Nat → Wd4) (C Ls Lc : List Nat) (h : Run w gm gv gc pc sp gas ws C Ls Lc) :
    Calls Safg.prog 25 #[.pointer (some ⟨gm, 0, none⟩)] w fun e w' => e = .returned (.pointer (some ⟨gm, 1803, none⟩)) ∧ Below w.heap.size w w' := by
  obtain ⟨c0, cPh, cT, cN, cS, cPC, cSB, cSP, cG, cC⟩ := h.cells
  go_enter Safg.func25, Safg.ntmps25
  go_upto_region 3 with fail
  refine wp_region_held_drew (S := fun w' => w'.cell? ⟨gm, 2258, none⟩ = some (.int .i8 0)) (by kernel_rfl) cT (fun hHeld => ?_)
  refine wpAnyH_take' (i := 0) (d := 29) rfl rfl (by kernel_rfl) (by kernel_rfl) (by kernel_rfl) (fun _ _ _ h => h) (Or.inl ⟨by rfl, fun w hw => by go_simp; try rfl⟩) hHeld ?_
  try simp only [Act.put, List.setIfInBounds_toArray, List.set_cons_zero, List.set_cons_succ]
  refine wpAnyH_take' (i := 1) (d := 30) rfl rfl (by kernel_rfl) (by kernel_rfl) (by kernel_rfl) (fun _ _ _ h => h) (Or.inl ⟨by rfl, fun w hw => by go_simp; try rfl⟩) hHeld ?_
  try simp only [Act.put, List.setIfInBounds_toArray, List.set_cons_zero, List.set_cons_succ]
  refine wpAnyH_take' (i := 2) (d := 31) rfl rfl (by kernel_rfl) (by kernel_rfl) (by kernel_rfl) (fun _ _ _ h => h) (Or.inl ⟨by rfl, fun w hw => by go_simp; try rfl⟩) hHeld ?_
  try simp only [Act.put, List.setIfInBounds_toArray, List.set_cons_zero, List.set_cons_succ]
  refine wpAnyH_take' (i := 3) (d := 32) rfl rfl (by kernel_rfl) (by kernel_rfl) (by kernel_rfl) (fun _ _ _ h => h) (Or.inl ⟨by rfl, fun w hw => by go_simp; try rfl⟩) hHeld ?_
  try simp only [Act.put, List.setIfInBounds_toArray, List.set_cons_zero, List.set_cons_succ]
  refine wpAnyH_take' (i := 4) (d := 33) rfl rfl (by kernel_rfl) (by kernel_rfl) (by kernel_rfl) (fun _ _ _ h => h) (Or.inl ⟨by rfl, fun w hw => by go_simp; try rfl⟩) hHeld ?_
  try simp only [Act.put, List.setIfInBounds_toArray, List.set_cons_zero, List.set_cons_succ]
  refine wpAnyH_take' (i := 5) (d := 34) rfl rfl (by kernel_rfl) (by kernel_rfl) (by kernel_rfl) (fun _ _ _ h => h) (Or.inl ⟨by rfl, fun w hw => by go_simp; try rfl⟩) hHeld ?_
  try simp only [Act.put, List.setIfInBounds_toArray, List.set_cons_zero, List.set_cons_succ]
  refine wpAnyH_take' (i := 6) (d := 35) rfl rfl (by kernel_rfl) (by kernel_rfl) (by kernel_rfl) (fun _ _ _ h => h) (Or.inl ⟨by rfl, fun w hw => by go_simp; try rfl⟩) hHeld ?_
  try simp only [Act.put, List.setIfInBounds_toArray, List.set_cons_zero, List.set_cons_succ]
  refine wpAnyH_take' (i := 7) (d := 36) rfl rfl (by kernel_rfl) (by kernel_rfl) (by kernel_rfl) (fun _ _ _ h => h) (Or.inl ⟨by rfl, fun w hw => by go_simp; try rfl⟩) hHeld ?_
  try simp only [Act.put, List.setIfInBounds_toArray, List.set_cons_zero, List.set_cons_succ]
  refine wpAnyH_take' (i := 8) (d := 2) rfl rfl (by kernel_rfl) (by kernel_rfl) (by kernel_rfl) (fun _ _ _ h => h) (Or.inl ⟨by rfl, fun w hw => by go_simp; try rfl⟩) hHeld ?_
  try simp only [Act.put, List.setIfInBounds_toArray, List.set_cons_zero, List.set_cons_succ]
  refine wpAnyH_done (by kernel_rfl) ?_ _
  go_wp2
  go_ret
  exact ⟨rfl, Turn.drew_below w⟩
set_option maxRecDepth 100000 in
set_option maxHeartbeats 1000000 in
theorem opcode_any (w : World) (gm gv gc pc sp gas : Nat) (ws : Nat → Wd4) (C Ls Lc : List Nat) (h : Run w gm gv gc pc sp gas ws C Ls Lc) (hpc : pc < C.length) (hC : C.length ≤ 256) :
    Calls Safg.prog 21 #[.pointer (some ⟨gm, 0, none⟩)] w fun e w' => e = .returned (.int .u8 ((C.getD pc 0 : Nat) : Int)) ∧ Below w.heap.size w w' := by
  obtain ⟨x, hx⟩ : ∃ x, C.getD pc 0 = x := ⟨_, rfl⟩
  have HC : Hid (C.getD pc 0 = x) := hx
  rw [hx]
  clear hx
  have HR := running_any w gm gv gc pc sp gas ws C Ls Lc h
  have t1 : decide ((C.length : Int) ≤ (pc : Int)) = false := decide_eq_false (by omega)
  have q1 : IntKind.i64.wrap (pc : Int) = (pc : Int) := by simp [IntKind.wrap, IntKind.bits, IntKind.signed]; omega
  have q2 : (0 : Int) ≤ (pc : Int) := by omega
  have q3 : (pc : Int) < (C.length : Int) := by omega
  go_enter Safg.func21, Safg.ntmps21
  go_upto_region 2 with (go_at_call 25; refine HR.mono ?_; rintro e w1 ⟨rfl, b1⟩)
  have h1 := h.below b1
  refine wp_region_held_drew (S := fun w' => Run w' gm gv gc pc sp gas ws C Ls Lc) (by kernel_rfl) h1.drew (fun hHeld => ?_)
  refine wpAnyH_take' (i := 0) (d := 6) rfl rfl (by kernel_rfl) (by kernel_rfl) (by kernel_rfl) (fun _ _ _ h => h) (Or.inl ⟨by rfl, fun w hw => by go_simp; try rfl⟩) hHeld ?_
  try simp only [Act.put, List.setIfInBounds_toArray, List.set_cons_zero, List.set_cons_succ]
  refine wpAnyH_take' (i := 1) (d := 7) rfl rfl (by kernel_rfl) (by kernel_rfl) (by kernel_rfl) (fun _ _ _ h => h) (Or.inl ⟨by rfl, fun w hw => by go_simp; try rfl⟩) hHeld ?_
  try simp only [Act.put, List.setIfInBounds_toArray, List.set_cons_zero, List.set_cons_succ]
  refine wpAnyH_take' (i := 2) (d := 8) rfl rfl (by kernel_rfl) (by kernel_rfl) (by kernel_rfl) (fun _ _ _ h => h) (Or.inl ⟨by rfl, fun w hw => by go_simp; try rfl⟩) hHeld ?_
  try simp only [Act.put, List.setIfInBounds_toArray, List.set_cons_zero, List.set_cons_succ]
  refine wpAnyH_take' (i := 3) (d := 9) rfl rfl (by kernel_rfl) (by kernel_rfl) (by kernel_rfl) (fun _ _ _ h => h) (Or.inl ⟨by rfl, fun w hw => by go_simp; try rfl⟩) hHeld ?_
  try simp only [Act.put, List.setIfInBounds_toArray, List.set_cons_zero, List.set_cons_succ]
  refine wpAnyH_take' (i := 4) (d := 10) rfl rfl (by kernel_rfl) (by kernel_rfl) (by kernel_rfl) (fun _ _ _ h => h) (Or.inl ⟨by rfl, fun w hw => by go_simp; try rfl⟩) hHeld ?_
  try simp only [Act.put, List.setIfInBounds_toArray, List.set_cons_zero, List.set_cons_succ]
  refine wpAnyH_take' (i := 5) (d := 11) rfl rfl (by kernel_rfl) (by kernel_rfl) (by kernel_rfl) (fun _ _ _ h => h) (Or.inl ⟨by rfl, fun w hw => by go_simp; try rfl⟩) hHeld ?_
  try simp only [Act.put, List.setIfInBounds_toArray, List.set_cons_zero, List.set_cons_succ]
  refine wpAnyH_take' (i := 6) (d := 12) rfl rfl (by kernel_rfl) (by kernel_rfl) (by kernel_rfl) (fun _ _ _ h => h) (Or.inl ⟨by rfl, fun w hw => by obtain ⟨c0, cPh, cT, cN, cS, cPC, cSB, cSP, cG, cC⟩ := hw.cells; go_simp; try rfl⟩) hHeld ?_
  try simp only [Act.put, List.setIfInBounds_toArray, List.set_cons_zero, List.set_cons_succ]
  refine wpAnyH_take' (i := 7) (d := 13) rfl rfl (by kernel_rfl) (by kernel_rfl) (by kernel_rfl) (fun _ _ _ h => h) (Or.inl ⟨by rfl, fun w hw => by go_simp; try rfl⟩) hHeld ?_
  try simp only [Act.put, List.setIfInBounds_toArray, List.set_cons_zero, List.set_cons_succ]
  refine wpAnyH_take' (i := 8) (d := 14) rfl rfl (by kernel_rfl) (by kernel_rfl) (by kernel_rfl) (fun _ _ _ h => h) (Or.inl ⟨by rfl, fun w hw => by go_simp; try rfl⟩) hHeld ?_
  try simp only [Act.put, List.setIfInBounds_toArray, List.set_cons_zero, List.set_cons_succ]
  refine wpAnyH_take' (i := 9) (d := 15) rfl rfl (by kernel_rfl) (by kernel_rfl) (by kernel_rfl) (fun _ _ _ h => h) (Or.inl ⟨by rfl, fun w hw => by go_simp; try rfl⟩) hHeld ?_
  try simp only [Act.put, List.setIfInBounds_toArray, List.set_cons_zero, List.set_cons_succ]
  refine wpAnyH_take' (i := 10) (d := 16) rfl rfl (by kernel_rfl) (by kernel_rfl) (by kernel_rfl) (fun _ _ _ h => h) (Or.inl ⟨by rfl, fun w hw => by go_simp; try rfl⟩) hHeld ?_
  try simp only [Act.put, List.setIfInBounds_toArray, List.set_cons_zero, List.set_cons_succ]
  refine wpAnyH_take' (i := 11) (d := 17) rfl rfl (by kernel_rfl) (by kernel_rfl) (by kernel_rfl) (fun _ _ _ h => h) (Or.inl ⟨by rfl, fun w hw => by obtain ⟨c0, cPh, cT, cN, cS, cPC, cSB, cSP, cG, cC⟩ := hw.cells; go_simp; try rfl⟩) hHeld ?_
  try simp only [Act.put, List.setIfInBounds_toArray, List.set_cons_zero, List.set_cons_succ]
  refine wpAnyH_take' (i := 12) (d := 18) rfl rfl (by kernel_rfl) (by kernel_rfl) (by kernel_rfl) (fun _ _ _ h => h) (Or.inl ⟨by rfl, fun w hw => by go_simp; try rfl⟩) hHeld ?_
  try simp only [Act.put, List.setIfInBounds_toArray, List.set_cons_zero, List.set_cons_succ]
  refine wpAnyH_take' (i := 13) (d := 19) rfl rfl (by kernel_rfl) (by kernel_rfl) (by kernel_rfl) (fun _ _ _ h => h) (Or.inl ⟨by rfl, fun w hw => by go_simp; try rfl⟩) hHeld ?_
  try simp only [Act.put, List.setIfInBounds_toArray, List.set_cons_zero, List.set_cons_succ]
  refine wpAnyH_take' (i := 14) (d := 20) rfl rfl (by kernel_rfl) (by kernel_rfl) (by kernel_rfl) (fun _ _ _ h => h) (Or.inl ⟨by rfl, fun w hw => by go_simp; try rfl⟩) hHeld ?_
  try simp only [Act.put, List.setIfInBounds_toArray, List.set_cons_zero, List.set_cons_succ]
  refine wpAnyH_done (by kernel_rfl) ?_ _
  have b2 := b1.trans ((Turn.drew_below w1).mono b1.size)
  clear h1 b1
  generalize w1.drew = w2 at *
  go_upto_region 4 with fail
  refine wp_region_held_drew (S := fun w' => Run w' gm gv gc pc sp gas ws C Ls Lc) (by kernel_rfl) hHeld.drew (fun hHeld2 => ?_)
  refine wpAnyH_take' (i := 0) (d := 21) rfl rfl (by kernel_rfl) (by kernel_rfl) (by kernel_rfl) (fun _ _ _ h => h) (Or.inl ⟨by rfl, fun w hw => by go_simp; try rfl⟩) hHeld2 ?_
  try simp only [Act.put, List.setIfInBounds_toArray, List.set_cons_zero, List.set_cons_succ]
  refine wpAnyH_take' (i := 1) (d := 22) rfl rfl (by kernel_rfl) (by kernel_rfl) (by kernel_rfl) (fun _ _ _ h => h) (Or.inl ⟨by rfl, fun w hw => by go_simp; try rfl⟩) hHeld2 ?_
  try simp only [Act.put, List.setIfInBounds_toArray, List.set_cons_zero, List.set_cons_succ]
  refine wpAnyH_take' (i := 2) (d := 23) rfl rfl (by kernel_rfl) (by kernel_rfl) (by kernel_rfl) (fun _ _ _ h => h) (Or.inl ⟨by rfl, fun w hw => by go_simp; try rfl⟩) hHeld2 ?_
  try simp only [Act.put, List.setIfInBounds_toArray, List.set_cons_zero, List.set_cons_succ]
  refine wpAnyH_take' (i := 3) (d := 24) rfl rfl (by kernel_rfl) (by kernel_rfl) (by kernel_rfl) (fun _ _ _ h => h) (Or.inl ⟨by rfl, fun w hw => by obtain ⟨c0, cPh, cT, cN, cS, cPC, cSB, cSP, cG, cC⟩ := hw.cells; have cB := hw.own.cell pc hpc; rw [HC.out] at cB; go_simp; try rfl⟩) hHeld2 ?_
  try simp only [Act.put, List.setIfInBounds_toArray, List.set_cons_zero, List.set_cons_succ]
  refine wpAnyH_take' (i := 4) (d := 25) rfl rfl (by kernel_rfl) (by kernel_rfl) (by kernel_rfl) (fun _ _ _ h => h) (Or.inl ⟨by rfl, fun w hw => by go_simp; try rfl⟩) hHeld2 ?_
  try simp only [Act.put, List.setIfInBounds_toArray, List.set_cons_zero, List.set_cons_succ]
  refine wpAnyH_take' (i := 5) (d := 26) rfl rfl (by kernel_rfl) (by kernel_rfl) (by kernel_rfl) (fun _ _ _ h => h) (Or.inl ⟨by rfl, fun w hw => by go_simp; try rfl⟩) hHeld2 ?_
  try simp only [Act.put, List.setIfInBounds_toArray, List.set_cons_zero, List.set_cons_succ]
  refine wpAnyH_take' (i := 6) (d := 27) rfl rfl (by kernel_rfl) (by kernel_rfl) (by kernel_rfl) (fun _ _ _ h => h) (Or.inl ⟨by rfl, fun w hw => by go_simp; try rfl⟩) hHeld2 ?_
  try simp only [Act.put, List.setIfInBounds_toArray, List.set_cons_zero, List.set_cons_succ]
  refine wpAnyH_take' (i := 7) (d := 28) rfl rfl (by kernel_rfl) (by kernel_rfl) (by kernel_rfl) (fun _ _ _ h => h) (Or.inl ⟨by rfl, fun w hw => by obtain ⟨c0, cPh, cT, cN, cS, cPC, cSB, cSP, cG, cC⟩ := hw.cells; have cB := hw.own.cell pc hpc; rw [HC.out] at cB; go_simp; try rfl⟩) hHeld2 ?_
  try simp only [Act.put, List.setIfInBounds_toArray, List.set_cons_zero, List.set_cons_succ]
  refine wpAnyH_take' (i := 8) (d := 29) rfl rfl (by kernel_rfl) (by kernel_rfl) (by kernel_rfl) (fun _ _ _ h => h) (Or.inl ⟨by rfl, fun w hw => by go_simp; try rfl⟩) hHeld2 ?_
  try simp only [Act.put, List.setIfInBounds_toArray, List.set_cons_zero, List.set_cons_succ]
  refine wpAnyH_take' (i := 9) (d := 30) rfl rfl (by kernel_rfl) (by kernel_rfl) (by kernel_rfl) (fun _ _ _ h => h) (Or.inl ⟨by rfl, fun w hw => by obtain ⟨c0, cPh, cT, cN, cS, cPC, cSB, cSP, cG, cC⟩ := hw.cells; have cB := hw.own.cell pc hpc; rw [HC.out] at cB; go_simp; try rfl⟩) hHeld2 ?_
  try simp only [Act.put, List.setIfInBounds_toArray, List.set_cons_zero, List.set_cons_succ]
  refine wpAnyH_take' (i := 10) (d := 2) rfl rfl (by kernel_rfl) (by kernel_rfl) (by kernel_rfl) (fun _ _ _ h => h) (Or.inl ⟨by rfl, fun w hw => by go_simp; try rfl⟩) hHeld2 ?_
  try simp only [Act.put, List.setIfInBounds_toArray, List.set_cons_zero, List.set_cons_succ]
  refine wpAnyH_done (by kernel_rfl) ?_ _
  go_wp2
  go_ret
  exact ⟨rfl, b2.trans ((Turn.drew_below w2).mono b2.size)⟩
set_option maxRecDepth 100000 in
set_option maxHeartbeats 1000000 in
theorem runNative_any (w : World) (gm gv gc pc sp gas : Nat) (ws : Nat → Wd4) (C Ls Lc : List Nat) (h : Run w gm gv gc pc sp gas ws C Ls Lc) :
    Calls Safg.prog 20 #[.pointer (some ⟨gm, 0, none⟩)] w fun e w' => e = .returned (.bool false) ∧ Below w.heap.size w w' := by
  have HR := running_any w gm gv gc pc sp gas ws C Ls Lc h
  go_enter Safg.func20, Safg.ntmps20
  go_upto_region 2 with (go_at_call 25; refine HR.mono ?_; rintro e w1 ⟨rfl, b1⟩)
  obtain ⟨c0, cPh, cT, cN, cS, cPC, cSB, cSP, cG, cC⟩ := (h.below b1).cells
  go_wp2
  go_ret
  exact ⟨rfl, b1⟩
set_option maxRecDepth 100000 in
set_option maxHeartbeats 2000000 in
theorem arg_any (w : World) (gm gv gc pc sp gas i : Nat) (ws : Nat → Wd4) (C Ls Lc : List Nat) (h : Run w gm gv gc pc sp gas ws C Ls Lc) (hs : sp ≤ 64) (hi : i < sp) :
    Calls Safg.prog 199 #[.pointer (some ⟨gm, 0, none⟩), .pointer (some ⟨gm, 1803, none⟩), .int .i64 (i : Int)] w fun e w' => e = .returned (ws (sp - 1 - i)).v ∧ Below w.heap.size w w' := by
  obtain ⟨k, hk⟩ : ∃ k, sp - 1 - i = k := ⟨_, rfl⟩
  rw [hk]
  have hks : k < sp := by omega
  have e1 : (sp : Int) - 1 - (i : Int) = (k : Int) := by omega
  have q0 : IntKind.i64.wrap (sp : Int) = (sp : Int) := by simp [IntKind.wrap, IntKind.bits, IntKind.signed]; omega
  have q1 : IntKind.i64.wrap ((sp : Int) - 1) = (sp : Int) - 1 := by simp [IntKind.wrap, IntKind.bits, IntKind.signed]; omega
  have q2 : IntKind.i64.wrap (k : Int) = (k : Int) := by simp [IntKind.wrap, IntKind.bits, IntKind.signed]; omega
  have e5 : IntKind.i64.wrap (IntKind.i64.wrap (IntKind.i64.wrap (IntKind.i64.wrap 0 + (sp : Int)) - 1) - (i : Int)) = (k : Int) := by
    have z : IntKind.i64.wrap 0 = 0 := rfl
    rw [z, Int.zero_add, q0, q1, e1, q2]
  have t1 : decide ((sp : Int) ≤ (i : Int)) = false := decide_eq_false (by omega)
  have t2 : decide ((448 : Int) ≤ (k : Int)) = false := decide_eq_false (by omega)
  have q3 : (0 : Int) ≤ (k : Int) := by omega
  have q4 : (k : Int) < 448 := by omega
  go_enter Safg.func199, Safg.ntmps199
  go_upto_region 1 with (refine wpList_alloc_agg rfl 65 rfl _ Safg.zero65 ?_; intro w1 g6 hg6 k6 b1)
  have h1 := h.below b1
  refine wp_region_held_drew (S := fun w' => Run w' gm gv gc pc sp gas ws C Ls Lc) (by kernel_rfl) h1.drew (fun hHeld => ?_)
  refine wpAnyH_take' (i := 0) (d := 8) rfl rfl (by kernel_rfl) (by kernel_rfl) (by kernel_rfl) (fun _ _ _ h => h) (Or.inl ⟨by rfl, fun w hw => by go_simp; try rfl⟩) hHeld ?_
  try simp only [Act.put, List.setIfInBounds_toArray, List.set_cons_zero, List.set_cons_succ]
  refine wpAnyH_take' (i := 1) (d := 9) rfl rfl (by kernel_rfl) (by kernel_rfl) (by kernel_rfl) (fun _ _ _ h => h) (Or.inl ⟨by rfl, fun w hw => by go_simp; try rfl⟩) hHeld ?_
  try simp only [Act.put, List.setIfInBounds_toArray, List.set_cons_zero, List.set_cons_succ]
  refine wpAnyH_take' (i := 2) (d := 10) rfl rfl (by kernel_rfl) (by kernel_rfl) (by kernel_rfl) (fun _ _ _ h => h) (Or.inl ⟨by rfl, fun w hw => by go_simp; try rfl⟩) hHeld ?_
  try simp only [Act.put, List.setIfInBounds_toArray, List.set_cons_zero, List.set_cons_succ]
  refine wpAnyH_take' (i := 3) (d := 11) rfl rfl (by kernel_rfl) (by kernel_rfl) (by kernel_rfl) (fun _ _ _ h => h) (Or.inl ⟨by rfl, fun w hw => by obtain ⟨c0, cPh, cT, cN, cS, cPC, cSB, cSP, cG, cC⟩ := hw.cells; go_simp; try rfl⟩) hHeld ?_
  try simp only [Act.put, List.setIfInBounds_toArray, List.set_cons_zero, List.set_cons_succ]
  refine wpAnyH_take' (i := 4) (d := 12) rfl rfl (by kernel_rfl) (by kernel_rfl) (by kernel_rfl) (fun _ _ _ h => h) (Or.inl ⟨by rfl, fun w hw => by go_simp; try rfl⟩) hHeld ?_
  try simp only [Act.put, List.setIfInBounds_toArray, List.set_cons_zero, List.set_cons_succ]
  refine wpAnyH_take' (i := 5) (d := 13) rfl rfl (by kernel_rfl) (by kernel_rfl) (by kernel_rfl) (fun _ _ _ h => h) (Or.inl ⟨by rfl, fun w hw => by go_simp; try rfl⟩) hHeld ?_
  try simp only [Act.put, List.setIfInBounds_toArray, List.set_cons_zero, List.set_cons_succ]
  refine wpAnyH_take' (i := 6) (d := 14) rfl rfl (by kernel_rfl) (by kernel_rfl) (by kernel_rfl) (fun _ _ _ h => h) (Or.inl ⟨by rfl, fun w hw => by go_simp; try rfl⟩) hHeld ?_
  try simp only [Act.put, List.setIfInBounds_toArray, List.set_cons_zero, List.set_cons_succ]
  refine wpAnyH_take' (i := 7) (d := 15) rfl rfl (by kernel_rfl) (by kernel_rfl) (by kernel_rfl) (fun _ _ _ h => h) (Or.inl ⟨by rfl, fun w hw => by go_simp; try rfl⟩) hHeld ?_
  try simp only [Act.put, List.setIfInBounds_toArray, List.set_cons_zero, List.set_cons_succ]
  refine wpAnyH_take' (i := 8) (d := 16) rfl rfl (by kernel_rfl) (by kernel_rfl) (by kernel_rfl) (fun _ _ _ h => h) (Or.inl ⟨by rfl, fun w hw => by obtain ⟨c0, cPh, cT, cN, cS, cPC, cSB, cSP, cG, cC⟩ := hw.cells; go_simp; try rfl⟩) hHeld ?_
  try simp only [Act.put, List.setIfInBounds_toArray, List.set_cons_zero, List.set_cons_succ]
  refine wpAnyH_take' (i := 9) (d := 17) rfl rfl (by kernel_rfl) (by kernel_rfl) (by kernel_rfl) (fun _ _ _ h => h) (Or.inl ⟨by rfl, fun w hw => by go_simp; try rfl⟩) hHeld ?_
  try simp only [Act.put, List.setIfInBounds_toArray, List.set_cons_zero, List.set_cons_succ]
  refine wpAnyH_take' (i := 10) (d := 18) rfl rfl (by kernel_rfl) (by kernel_rfl) (by kernel_rfl) (fun _ _ _ h => h) (Or.inl ⟨by rfl, fun w hw => by go_simp; try rfl⟩) hHeld ?_
  try simp only [Act.put, List.setIfInBounds_toArray, List.set_cons_zero, List.set_cons_succ]
  refine wpAnyH_take' (i := 11) (d := 19) rfl rfl (by kernel_rfl) (by kernel_rfl) (by kernel_rfl) (fun _ _ _ h => h) (Or.inl ⟨by rfl, fun w hw => by go_simp; try rfl⟩) hHeld ?_
  try simp only [Act.put, List.setIfInBounds_toArray, List.set_cons_zero, List.set_cons_succ]
  refine wpAnyH_take' (i := 12) (d := 20) rfl rfl (by kernel_rfl) (by kernel_rfl) (by kernel_rfl) (fun _ _ _ h => h) (Or.inl ⟨by rfl, fun w hw => by go_simp; try rfl⟩) hHeld ?_
  try simp only [Act.put, List.setIfInBounds_toArray, List.set_cons_zero, List.set_cons_succ]
  refine wpAnyH_take' (i := 13) (d := 21) (v := .int .i64 (k : Int)) rfl rfl (by kernel_rfl) (by kernel_rfl) (by kernel_rfl) (fun _ _ _ h => h) (Or.inl ⟨by rfl, fun w hw => by go_simp; first | exact e5 | done⟩) hHeld ?_
  try simp only [Act.put, List.setIfInBounds_toArray, List.set_cons_zero, List.set_cons_succ]
  refine wpAnyH_take' (i := 14) (d := 7) (v := .int .i64 (k : Int)) rfl rfl (by kernel_rfl) (by kernel_rfl) (by kernel_rfl) (fun _ _ _ h => h) (Or.inl ⟨by rfl, fun w hw => by go_simp; try rfl⟩) hHeld ?_
  try simp only [Act.put, List.setIfInBounds_toArray, List.set_cons_zero, List.set_cons_succ]
  refine wpAnyH_done (by kernel_rfl) ?_ _
  have b2 := b1.trans ((Turn.drew_below w1).mono b1.size)
  have k6 := (Same.drew w1).blk k6
  clear h1 b1 h
  generalize w1.drew = w2 at *
  obtain ⟨c0, cPh, cT, cN, cS, cPC, cSB, cSP, cG, cC⟩ := hHeld.cells
  have R := hHeld.word hs hks
  go_upto_region 4 with fail
  go_wp2_with (first | (refine wpList_load_mid rfl 65 _ rfl gm (11 + k * 4) rfl _ _ R Safg.under65 rfl Safg.size65 ?_) | (refine wpList_store_agg rfl 65 _ _ rfl g6 rfl _ (ws k).cells rfl k6 rfl Safg.size65 (Wd4.one _) ?_; intro w3 k3 n3))
  refine bodyPost_ret (results_cell1 Safg.results199 _ w3 g6 _ _ rfl k3 Safg.under65 rfl Safg.size65) rfl ⟨rfl, b2.trans (n3.below hg6)⟩

set_option maxRecDepth 100000 in
set_option maxHeartbeats 4000000 in
theorem settle_any (w : World) (gm gv gc pc sp gas tk st : Nat) (ws : Nat → Wd4) (C Ls Lc : List Nat) (b : Wd4) (hb : b.Ok) (h : Run w gm gv gc pc sp gas ws C Ls Lc) (hs : sp ≤ 64) (ht : tk ≤ sp) (hk : sp - tk < 64) (hpc : pc + st < 65536) :
    Calls Safg.prog 195 #[.pointer (some ⟨gm, 0, none⟩), .pointer (some ⟨gm, 1803, none⟩), .int .u16 (tk : Int), .bool true, b.v, .int .u16 (st : Int)] w fun e w' => e = .returned (.tuple #[]) ∧ Run w' gm gv gc (pc + st) (sp - tk + 1) gas (MF.lay ws (sp - tk) b) C Ls Lc ∧ Turn [gm] w w' := by
  obtain ⟨k, hkk⟩ : ∃ k, sp - tk = k := ⟨_, rfl⟩
  rw [hkk] at hk
  rw [hkk]
  have t1 : decide ((sp : Int) < (tk : Int)) = false := decide_eq_false (by omega)
  have e1 : (sp : Int) - (tk : Int) = (k : Int) := by omega
  have q1 : IntKind.u16.wrap (k : Int) = (k : Int) := by simp [IntKind.wrap, IntKind.bits, IntKind.signed]; omega
  have q2 : IntKind.i64.wrap (k : Int) = (k : Int) := by simp [IntKind.wrap, IntKind.bits, IntKind.signed]; omega
  have t2 : decide ((64 : Int) ≤ (k : Int)) = false := decide_eq_false (by omega)
  have t3 : decide ((448 : Int) ≤ (k : Int)) = false := decide_eq_false (by omega)
  have q3 : (0 : Int) ≤ (k : Int) := by omega
  have q4 : (k : Int) < 448 := by omega
  obtain ⟨k1, hk1⟩ : ∃ m, k + 1 = m := ⟨_, rfl⟩
  have e2 : (k : Int) + 1 = (k1 : Int) := by omega
  have q5 : IntKind.u16.wrap (k1 : Int) = (k1 : Int) := by simp [IntKind.wrap, IntKind.bits, IntKind.signed]; omega
  obtain ⟨p1, hp1⟩ : ∃ m, pc + st = m := ⟨_, rfl⟩
  have e3 : (pc : Int) + (st : Int) = (p1 : Int) := by omega
  have q6 : IntKind.u16.wrap (p1 : Int) = (p1 : Int) := by simp [IntKind.wrap, IntKind.bits, IntKind.signed]; omega
  have hkp : k ≤ sp := by omega
  rw [hp1, hk1]
  clear hkk ht
  go_enter Safg.func195, Safg.ntmps195
  go_upto_region 1 with (refine wpList_box_agg rfl 65 (.tmp 4) rfl b.cells rfl ?_; intro w1 g1 hg1 k1' b1)
  have h1 := h.below b1
  have T1 := Turn.of_below b1 (Nat.le_refl _) [gm]
  obtain ⟨c0, cPh, cT, cN, cS, cPC, cSB, cSP, cG, cC⟩ := h1.cells
  have hgm : gm < w.heap.size := by obtain ⟨f, m, _⟩ := h.m; exact m.lt
  clear h b1
  go_upto_region 8 with fail
  refine wp_region_held_drew (S := fun w' => Blk w' g1 b.cells) (by kernel_rfl) ((Same.drew w1).blk k1') (fun hHeld => ?_)
  refine wpAnyH_take' (i := 0) (d := 45) rfl rfl (by kernel_rfl) (by kernel_rfl) (by kernel_rfl) (fun _ _ _ h => h) (Or.inl ⟨by rfl, fun w hw => by go_simp; try rfl⟩) hHeld ?_
  try simp only [Act.put, List.setIfInBounds_toArray, List.set_cons_zero, List.set_cons_succ]
  refine wpAnyH_take' (i := 1) (d := 46) rfl rfl (by kernel_rfl) (by kernel_rfl) (by kernel_rfl) (fun _ _ _ h => h) (Or.inl ⟨by rfl, fun w hw => by go_simp; try rfl⟩) hHeld ?_
  try simp only [Act.put, List.setIfInBounds_toArray, List.set_cons_zero, List.set_cons_succ]
  refine wpAnyH_take' (i := 2) (d := 47) rfl rfl (by kernel_rfl) (by kernel_rfl) (by kernel_rfl) (fun _ _ _ h => h) (yieldsIf_load_mid (by rfl) 65 _ rfl g1 0 rfl b.cells _ (fun w hw => hw.cell) Safg.under65 rfl Safg.size65) hHeld ?_
  try simp only [Act.put, List.setIfInBounds_toArray, List.set_cons_zero, List.set_cons_succ]
  refine wpAnyH_take' (i := 3) (d := 48) rfl rfl (by kernel_rfl) (by kernel_rfl) (by kernel_rfl) (fun _ _ _ h => h) (Or.inl ⟨by rfl, fun w hw => by go_simp; try rfl⟩) hHeld ?_
  try simp only [Act.put, List.setIfInBounds_toArray, List.set_cons_zero, List.set_cons_succ]
  refine wpAnyH_take' (i := 4) (d := 49) rfl rfl (by kernel_rfl) (by kernel_rfl) (by kernel_rfl) (fun _ _ _ h => h) (Or.inl ⟨by rfl, fun w hw => by go_simp; try rfl⟩) hHeld ?_
  try simp only [Act.put, List.setIfInBounds_toArray, List.set_cons_zero, List.set_cons_succ]
  refine wpAnyH_take' (i := 5) (d := 50) rfl rfl (by kernel_rfl) (by kernel_rfl) (by kernel_rfl) (fun _ _ _ h => h) (Or.inl ⟨by rfl, fun w hw => by go_simp; try rfl⟩) hHeld ?_
  try simp only [Act.put, List.setIfInBounds_toArray, List.set_cons_zero, List.set_cons_succ]
  have h2 := h1.drew
  have T2 := T1.trans (Turn.drew [gm] w1)
  have lg1 := k1'.lt
  clear h1 T1 k1' c0 cPh cT cN cS cPC cSB cSP cG cC
  generalize w1.drew = w2 at *
  obtain ⟨f, m2, mf2⟩ := h2.m
  refine wpAnyH_one 6 (by kernel_rfl) rfl rfl ?_
  refine wp_store_mid 65 _ _ rfl gm (11 + k * 4) b.cells.toArray rfl rfl (m2.there (by show 11 + k * 4 + 4 ≤ 2435; omega)) Safg.size65 (all_oneCell_toArray (Wd4.one _)) ?_
  have hne : g1 ≠ gm := by omega
  refine ⟨?_, ?_⟩
  · exact Blk.off hHeld hne
  try simp only [Act.put, List.setIfInBounds_toArray, List.set_cons_zero, List.set_cons_succ]
  refine wpAnyH_done (by kernel_rfl) ?_ _
  try rw [List.toList_toArray]
  have m3 := m2.sets (k := 11 + k * 4) b.cells (by show 11 + k * 4 + 4 ≤ 2435; omega)
  have n3 : Only gm w2 (w2.setCells gm (11 + k * 4) b.cells) := Only.setCells _ _ (Only.refl _ _)
  have m4 := m3.set (k := 1809) (by omega) (.int .u16 (k1 : Int))
  have n4 := (Only.refl gm (w2.setCells gm (11 + k * 4) b.cells)).setCell 1809 (.int .u16 (k1 : Int))
  have mf4 := mf2.push (by omega) k hkp (by omega) b hb
  rw [hk1] at mf4
  have h4 := h2.only (n3.trans n4) m4 (by rw [Nat.mul_comm]; exact mf4)
  obtain ⟨c0, cPh, cT, cN, cS, cPC, cSB, cSP, cG, cC⟩ := h4.cells
  have d1 : (w2.setCells gm (11 + k * 4) b.cells).cell? ⟨gm, 1809, none⟩ = some (.int .u16 (sp : Int)) := by
    rw [m3.cell 1809 (by omega), updL_out _ _ (by show 1809 < 11 + k * 4 ∨ 11 + k * 4 + 4 ≤ 1809; omega), mf2.hsp]
  have d2 := m3.free 1809
  have d3 := m4.free 1807
  have m5 := m4.set (k := 1807) (by omega) (.int .u16 (p1 : Int))
  have n5 := (Only.refl gm ((w2.setCells gm (11 + k * 4) b.cells).setCell ⟨gm, 1809, none⟩ (.int .u16 (k1 : Int)))).setCell 1807 (.int .u16 (p1 : Int))
  have mf5 := mf4.setPc (by omega) p1
  have h5 := h4.only n5 m5 (by rw [Nat.mul_comm]; exact mf5)
  have T5 := T2.trans (Turn.of_only ((n3.trans n4).trans n5))
  clear h2 h4 m2 m3 m4 m5 mf2 mf4 mf5 n3 n4 n5 T2 hHeld c0 cPh cT cN cS cSB cSP cG cC
  generalize w2.setCells gm (11 + k * 4) b.cells = w3 at *
  go_wp2
  go_end0
  exact ⟨rfl, h5, T5⟩
end Go.Proofs.YgcsafGreat
