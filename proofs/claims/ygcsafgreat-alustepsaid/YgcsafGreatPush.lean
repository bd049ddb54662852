/-
  OpPush (251) of 32 bytes, at the three places of the law's code.
-/
import Derived.Test.YgcsafGreatStep2
import Derived.Test.YgcsafGreatMSm
import Derived.Test.YgcsafGreatBE64
namespace Go.Proofs.YgcsafGreat
open Go.RowKit
set_option linter.unusedVariables false
set_option linter.unusedSimpArgs false

theorem wp_copyB {w : World} {o : Oper} {a : Act} {K : Act → World → Prop} {Q : Exit → Act → World → Prop} (d s : Operand)
    (ho : o.op = .call { callee := .builtin .copy, args := #[d, s], argTypes := #[26, 26] })
    (g h off n dCap m sCap : Nat) (hd : a.eval d = .slice (some ⟨g, 0, none⟩) n dCap) (hs : a.eval s = .slice (some ⟨h, off, none⟩) m sCap) (hk : n ≤ m)
    (D L : List Nat) (hD : D.length = n) (hL : L.length = n) (od : Own w g D) (os : ∀ j, j < n → w.cell? ⟨h, off + j, none⟩ = some (.int .u8 ((L.getD j 0 : Nat) : Int)))
    (hK : ∀ w', Own w' g L → Only g w w' → K (a.put o.dst (.int .i64 (n : Int))) w') : o.wp Safg.prog a w K Q := by
  have hrun := run_copy_cells (P := Safg.prog) w 26 26 o.type 5 g 0 n dCap ⟨h, off, none⟩ m sCap (cellsL L) Safg.underlying26 Safg.size5 (by rw [cellsL_length, hL]; exact (Nat.min_eq_right hk).symm)
    (fun j v hv => by
      obtain ⟨hj, rfl⟩ := cellsL_get L j v hv
      rw [Addr.add_mid]; exact os j (by omega))
    (fun j hj => by rw [cellsL_length] at hj; rw [Nat.zero_add, od.cell j (by omega)]; rfl)
    (fun j hj => by rw [Nat.zero_add]; exact od.free j)
    (cellsL_one L)
  rw [cellsL_length, hL] at hrun
  unfold Oper.wp
  simp [execOp, ho, resolve, invoke, builtin, hd, hs, hrun, Result.andThen]
  exact hK _ (od.store (by omega)) (Only.setCells _ 0 (Only.refl _ _))

set_option maxRecDepth 100000 in
set_option maxHeartbeats 4000000 in
theorem opPush_0 (w : World) (gm gv gc gas : Nat) (ws : Nat → Wd4) (C Ls Lc : List Nat) (h : Run w gm gv gc 0 0 gas ws C Ls Lc) (hC : C.length = 100) (dC : D.Dig C) (ho : C.getD 0 0 = 127) :
    Calls Safg.prog 251 #[.pointer (some ⟨gm, 0, none⟩)] w (RunPost (.tuple #[]) w gm gv gc 33 1 gas (MF.lay ws 0 (wdOf ((C.drop 1).take 32))) C Ls Lc) := by
  have HR := running_any w gm gv gc 0 0 gas ws C Ls Lc h
  have hL : ((C.drop 1).take 32).length = 32 := by rw [List.length_take, List.length_drop, hC]; decide
  have dL : D.Dig ((C.drop 1).take 32) := (dC.drop _).take _
  have hcell : ∀ {w : World}, Run w gm gv gc 0 0 gas ws C Ls Lc → ∀ j, j < 32 → w.cell? ⟨gc, 1 + j, none⟩ = some (.int .u8 ((((C.drop 1).take 32).getD j 0 : Nat) : Int)) := fun {w} h j hj => by
    rw [h.own.cell (1 + j) (by omega), D.getD_take hj, List.getD_eq_getElem?_getD, List.getD_eq_getElem?_getD, List.getElem?_drop]
  obtain ⟨L, hLL⟩ : ∃ L, (C.drop 1).take 32 = L := ⟨_, rfl⟩
  rw [hLL] at hL dL
  simp only [hLL] at hcell ⊢
  clear hLL
  go_enter Safg.func251, Safg.ntmps251
  go_upto_region 2 with (go_at_call 25; refine HR.mono ?_; rintro e w1 ⟨rfl, b1⟩)
  have h1 := h.below b1
  have T1 := Turn.of_below b1 (Nat.le_refl _) [gm]
  have HO : Calls Safg.prog 21 #[.pointer (some ⟨gm, 0, none⟩)] w1 fun e w' => e = .returned (.int .u8 127) ∧ Below w1.heap.size w1 w' := (opcode_any w1 gm gv gc 0 0 gas ws C Ls Lc h1 (by omega) (by omega)).mono fun e w' ⟨q1, q2⟩ => ⟨by rw [q1, ho]; rfl, q2⟩
  clear h HR b1
  go_upto_region 3 with (first | (go_at_call 21; refine HO.mono ?_; rintro e w2 ⟨rfl, b2⟩) | (go_at_call 295; refine (imm_push _).mono ?_; rintro e w3 ⟨rfl, rfl⟩))
  have h2 := h1.below b2
  have T2 := T1.trans (Turn.of_below b2 (Nat.le_refl _) _)
  obtain ⟨c0, cPh, cT, cN, cS, cPC, cSB, cSP, cG, cC⟩ := h2.cells
  rw [hC] at cC
  clear h1 T1 b2 HO
  go_upto_region 13 with (refine wpList_alloc_arr rfl 22 rfl 32 Safg.zero22 ?_; intro w4 g8 hg8 o8 b4)
  have h4 := h2.below b4
  have T4 := T2.trans (Turn.of_below b4 (Nat.le_refl _) _)
  have n8 : g8 ≠ gm := by obtain ⟨f, m, _⟩ := h2.m; have := m.lt; omega
  have n8v : gv ≠ g8 := by have := h2.lv; omega
  have n8c : gc ≠ g8 := by have := h2.own.lt; omega
  have n8w : w.heap.size ≤ g8 := Nat.le_trans T2.size hg8
  clear h2 T2 b4 c0 cPh cT cN cS cPC cSB cSP cG cC
  obtain ⟨c0, cPh, cT, cN, cS, cPC, cSB, cSP, cG, cC⟩ := h4.cells
  rw [hC] at cC
  go_upto_region 15 with fail
  clear c0 cPh cT cN cS cPC cSB cSP cG cC
  refine wp_region_held_drew (S := fun w' => Run w' gm gv gc 0 0 gas ws C Ls Lc) (by kernel_rfl) h4.drew (fun hHeld => ?_)
  refine wpAnyH_take' (i := 0) (d := 78) rfl rfl (by kernel_rfl) (by kernel_rfl) (by kernel_rfl) (fun _ _ _ h => h) (Or.inl ⟨by rfl, fun w hw => by go_simp; try rfl⟩) hHeld ?_
  try simp only [Act.put, List.setIfInBounds_toArray, List.set_cons_zero, List.set_cons_succ]
  refine wpAnyH_take' (i := 1) (d := 79) (v := .int .i64 0) rfl rfl (by kernel_rfl) (by kernel_rfl) (by kernel_rfl) (fun _ _ _ h => h) (Or.inl ⟨by rfl, fun w hw => by go_simp; try rfl⟩) hHeld ?_
  try simp only [Act.put, List.setIfInBounds_toArray, List.set_cons_zero, List.set_cons_succ]
  refine wpAnyH_take' (i := 2) (d := 80) (v := .slice (some ⟨g8, 0, none⟩) 32 32) rfl rfl (by kernel_rfl) (by kernel_rfl) (by kernel_rfl) (fun _ _ _ h => h) (Or.inl ⟨by rfl, fun w hw => by go_simp; try rfl⟩) hHeld ?_
  try simp only [Act.put, List.setIfInBounds_toArray, List.set_cons_zero, List.set_cons_succ]
  refine wpAnyH_take' (i := 3) (d := 81) rfl rfl (by kernel_rfl) (by kernel_rfl) (by kernel_rfl) (fun _ _ _ h => h) (Or.inl ⟨by rfl, fun w hw => by go_simp; try rfl⟩) hHeld ?_
  try simp only [Act.put, List.setIfInBounds_toArray, List.set_cons_zero, List.set_cons_succ]
  refine wpAnyH_take' (i := 4) (d := 82) rfl rfl (by kernel_rfl) (by kernel_rfl) (by kernel_rfl) (fun _ _ _ h => h) (Or.inl ⟨by rfl, fun w hw => by go_simp; try rfl⟩) hHeld ?_
  try simp only [Act.put, List.setIfInBounds_toArray, List.set_cons_zero, List.set_cons_succ]
  refine wpAnyH_take' (i := 5) (d := 83) rfl rfl (by kernel_rfl) (by kernel_rfl) (by kernel_rfl) (fun _ _ _ h => h) (Or.inl ⟨by rfl, fun w hw => by go_simp; try rfl⟩) hHeld ?_
  try simp only [Act.put, List.setIfInBounds_toArray, List.set_cons_zero, List.set_cons_succ]
  refine wpAnyH_take' (i := 6) (d := 84) rfl rfl (by kernel_rfl) (by kernel_rfl) (by kernel_rfl) (fun _ _ _ h => h) (Or.inl ⟨by rfl, fun w hw => by obtain ⟨c0, cPh, cT, cN, cS, cPC, cSB, cSP, cG, cC⟩ := hw.cells; rw [hC] at cC; go_simp; try rfl⟩) hHeld ?_
  try simp only [Act.put, List.setIfInBounds_toArray, List.set_cons_zero, List.set_cons_succ]
  refine wpAnyH_take' (i := 7) (d := 85) rfl rfl (by kernel_rfl) (by kernel_rfl) (by kernel_rfl) (fun _ _ _ h => h) (Or.inl ⟨by rfl, fun w hw => by go_simp; try rfl⟩) hHeld ?_
  try simp only [Act.put, List.setIfInBounds_toArray, List.set_cons_zero, List.set_cons_succ]
  refine wpAnyH_take' (i := 8) (d := 86) (v := .slice (some ⟨gc, 1, none⟩) 99 99) rfl rfl (by kernel_rfl) (by kernel_rfl) (by kernel_rfl) (fun _ _ _ h => h) (Or.inl ⟨by rfl, fun w hw => by go_simp; try rfl⟩) hHeld ?_
  try simp only [Act.put, List.setIfInBounds_toArray, List.set_cons_zero, List.set_cons_succ]
  have o9 := (Same.drew w4).own o8
  have h9 := h4.drew
  have T9 := T4.trans (Turn.drew [gm] w4)
  clear h4 T4 o8
  generalize w4.drew = w9 at *
  refine wpAnyH_one 9 (by kernel_rfl) rfl rfl ?_
  refine wp_copyB _ _ rfl g8 gc 1 32 32 99 99 rfl rfl (by omega) (List.replicate 32 0) L (by simp) hL o9 (hcell h9) ?_
  intro w10 o10 n10
  have h10 := h9.turn (Turn.of_only n10) (by simpa using Ne.symm n8) (by simpa using n8v) (by simpa using n8c)
  have T10 := T9.then_ (Turn.of_only n10) (fun i hi hl => absurd hl (by obtain rfl : i = g8 := (by simpa using hi); omega))
  refine ⟨h10, ?_⟩
  try simp only [Act.put, List.setIfInBounds_toArray, List.set_cons_zero, List.set_cons_succ]
  refine wpAnyH_done (by kernel_rfl) ?_ _
  clear hHeld h9 T9 o9 n10
  go_wp2_with (first | (refine wpList_load_arr rfl 22 (.tmp 8) rfl g8 rfl L o10 32 5 Safg.underlying22 (by rw [hL]; exact Safg.size22) ?_) | (go_at_call 63; refine (fromBytes_any _ L hL dL).mono ?_; rintro e w11 ⟨rfl, b11⟩) | (go_at_call 195; refine (settle_any w11 gm gv gc 0 0 gas 0 33 ws C Ls Lc (wdOf L) (wdOf_ok dL) (h10.below b11) (by omega) (by omega) (by omega) (by omega)).mono ?_; rintro e w12 ⟨rfl, h12, T12⟩))
  go_end0
  exact ⟨rfl, h12, (T10.trans (Turn.of_below b11 (Nat.le_refl _) _)).trans T12⟩

set_option maxRecDepth 100000 in
set_option maxHeartbeats 4000000 in
theorem opPush_33 (w : World) (gm gv gc gas : Nat) (ws : Nat → Wd4) (C Ls Lc : List Nat) (h : Run w gm gv gc 33 1 gas ws C Ls Lc) (hC : C.length = 100) (dC : D.Dig C) (ho : C.getD 33 0 = 127) :
    Calls Safg.prog 251 #[.pointer (some ⟨gm, 0, none⟩)] w (RunPost (.tuple #[]) w gm gv gc 66 2 gas (MF.lay ws 1 (wdOf ((C.drop 34).take 32))) C Ls Lc) := by
  have HR := running_any w gm gv gc 33 1 gas ws C Ls Lc h
  have hL : ((C.drop 34).take 32).length = 32 := by rw [List.length_take, List.length_drop, hC]; decide
  have dL : D.Dig ((C.drop 34).take 32) := (dC.drop _).take _
  have hcell : ∀ {w : World}, Run w gm gv gc 33 1 gas ws C Ls Lc → ∀ j, j < 32 → w.cell? ⟨gc, 34 + j, none⟩ = some (.int .u8 ((((C.drop 34).take 32).getD j 0 : Nat) : Int)) := fun {w} h j hj => by
    rw [h.own.cell (34 + j) (by omega), D.getD_take hj, List.getD_eq_getElem?_getD, List.getD_eq_getElem?_getD, List.getElem?_drop]
  obtain ⟨L, hLL⟩ : ∃ L, (C.drop 34).take 32 = L := ⟨_, rfl⟩
  rw [hLL] at hL dL
  simp only [hLL] at hcell ⊢
  clear hLL
  go_enter Safg.func251, Safg.ntmps251
  go_upto_region 2 with (go_at_call 25; refine HR.mono ?_; rintro e w1 ⟨rfl, b1⟩)
  have h1 := h.below b1
  have T1 := Turn.of_below b1 (Nat.le_refl _) [gm]
  have HO : Calls Safg.prog 21 #[.pointer (some ⟨gm, 0, none⟩)] w1 fun e w' => e = .returned (.int .u8 127) ∧ Below w1.heap.size w1 w' := (opcode_any w1 gm gv gc 33 1 gas ws C Ls Lc h1 (by omega) (by omega)).mono fun e w' ⟨q1, q2⟩ => ⟨by rw [q1, ho]; rfl, q2⟩
  clear h HR b1
  go_upto_region 3 with (first | (go_at_call 21; refine HO.mono ?_; rintro e w2 ⟨rfl, b2⟩) | (go_at_call 295; refine (imm_push _).mono ?_; rintro e w3 ⟨rfl, rfl⟩))
  have h2 := h1.below b2
  have T2 := T1.trans (Turn.of_below b2 (Nat.le_refl _) _)
  obtain ⟨c0, cPh, cT, cN, cS, cPC, cSB, cSP, cG, cC⟩ := h2.cells
  rw [hC] at cC
  clear h1 T1 b2 HO
  go_upto_region 13 with (refine wpList_alloc_arr rfl 22 rfl 32 Safg.zero22 ?_; intro w4 g8 hg8 o8 b4)
  have h4 := h2.below b4
  have T4 := T2.trans (Turn.of_below b4 (Nat.le_refl _) _)
  have n8 : g8 ≠ gm := by obtain ⟨f, m, _⟩ := h2.m; have := m.lt; omega
  have n8v : gv ≠ g8 := by have := h2.lv; omega
  have n8c : gc ≠ g8 := by have := h2.own.lt; omega
  have n8w : w.heap.size ≤ g8 := Nat.le_trans T2.size hg8
  clear h2 T2 b4 c0 cPh cT cN cS cPC cSB cSP cG cC
  obtain ⟨c0, cPh, cT, cN, cS, cPC, cSB, cSP, cG, cC⟩ := h4.cells
  rw [hC] at cC
  go_upto_region 15 with fail
  clear c0 cPh cT cN cS cPC cSB cSP cG cC
  refine wp_region_held_drew (S := fun w' => Run w' gm gv gc 33 1 gas ws C Ls Lc) (by kernel_rfl) h4.drew (fun hHeld => ?_)
  refine wpAnyH_take' (i := 0) (d := 78) rfl rfl (by kernel_rfl) (by kernel_rfl) (by kernel_rfl) (fun _ _ _ h => h) (Or.inl ⟨by rfl, fun w hw => by go_simp; try rfl⟩) hHeld ?_
  try simp only [Act.put, List.setIfInBounds_toArray, List.set_cons_zero, List.set_cons_succ]
  refine wpAnyH_take' (i := 1) (d := 79) (v := .int .i64 0) rfl rfl (by kernel_rfl) (by kernel_rfl) (by kernel_rfl) (fun _ _ _ h => h) (Or.inl ⟨by rfl, fun w hw => by go_simp; try rfl⟩) hHeld ?_
  try simp only [Act.put, List.setIfInBounds_toArray, List.set_cons_zero, List.set_cons_succ]
  refine wpAnyH_take' (i := 2) (d := 80) (v := .slice (some ⟨g8, 0, none⟩) 32 32) rfl rfl (by kernel_rfl) (by kernel_rfl) (by kernel_rfl) (fun _ _ _ h => h) (Or.inl ⟨by rfl, fun w hw => by go_simp; try rfl⟩) hHeld ?_
  try simp only [Act.put, List.setIfInBounds_toArray, List.set_cons_zero, List.set_cons_succ]
  refine wpAnyH_take' (i := 3) (d := 81) rfl rfl (by kernel_rfl) (by kernel_rfl) (by kernel_rfl) (fun _ _ _ h => h) (Or.inl ⟨by rfl, fun w hw => by go_simp; try rfl⟩) hHeld ?_
  try simp only [Act.put, List.setIfInBounds_toArray, List.set_cons_zero, List.set_cons_succ]
  refine wpAnyH_take' (i := 4) (d := 82) rfl rfl (by kernel_rfl) (by kernel_rfl) (by kernel_rfl) (fun _ _ _ h => h) (Or.inl ⟨by rfl, fun w hw => by go_simp; try rfl⟩) hHeld ?_
  try simp only [Act.put, List.setIfInBounds_toArray, List.set_cons_zero, List.set_cons_succ]
  refine wpAnyH_take' (i := 5) (d := 83) rfl rfl (by kernel_rfl) (by kernel_rfl) (by kernel_rfl) (fun _ _ _ h => h) (Or.inl ⟨by rfl, fun w hw => by go_simp; try rfl⟩) hHeld ?_
  try simp only [Act.put, List.setIfInBounds_toArray, List.set_cons_zero, List.set_cons_succ]
  refine wpAnyH_take' (i := 6) (d := 84) rfl rfl (by kernel_rfl) (by kernel_rfl) (by kernel_rfl) (fun _ _ _ h => h) (Or.inl ⟨by rfl, fun w hw => by obtain ⟨c0, cPh, cT, cN, cS, cPC, cSB, cSP, cG, cC⟩ := hw.cells; rw [hC] at cC; go_simp; try rfl⟩) hHeld ?_
  try simp only [Act.put, List.setIfInBounds_toArray, List.set_cons_zero, List.set_cons_succ]
  refine wpAnyH_take' (i := 7) (d := 85) rfl rfl (by kernel_rfl) (by kernel_rfl) (by kernel_rfl) (fun _ _ _ h => h) (Or.inl ⟨by rfl, fun w hw => by go_simp; try rfl⟩) hHeld ?_
  try simp only [Act.put, List.setIfInBounds_toArray, List.set_cons_zero, List.set_cons_succ]
  refine wpAnyH_take' (i := 8) (d := 86) (v := .slice (some ⟨gc, 34, none⟩) 66 66) rfl rfl (by kernel_rfl) (by kernel_rfl) (by kernel_rfl) (fun _ _ _ h => h) (Or.inl ⟨by rfl, fun w hw => by go_simp; try rfl⟩) hHeld ?_
  try simp only [Act.put, List.setIfInBounds_toArray, List.set_cons_zero, List.set_cons_succ]
  have o9 := (Same.drew w4).own o8
  have h9 := h4.drew
  have T9 := T4.trans (Turn.drew [gm] w4)
  clear h4 T4 o8
  generalize w4.drew = w9 at *
  refine wpAnyH_one 9 (by kernel_rfl) rfl rfl ?_
  refine wp_copyB _ _ rfl g8 gc 34 32 32 66 66 rfl rfl (by omega) (List.replicate 32 0) L (by simp) hL o9 (hcell h9) ?_
  intro w10 o10 n10
  have h10 := h9.turn (Turn.of_only n10) (by simpa using Ne.symm n8) (by simpa using n8v) (by simpa using n8c)
  have T10 := T9.then_ (Turn.of_only n10) (fun i hi hl => absurd hl (by obtain rfl : i = g8 := (by simpa using hi); omega))
  refine ⟨h10, ?_⟩
  try simp only [Act.put, List.setIfInBounds_toArray, List.set_cons_zero, List.set_cons_succ]
  refine wpAnyH_done (by kernel_rfl) ?_ _
  clear hHeld h9 T9 o9 n10
  go_wp2_with (first | (refine wpList_load_arr rfl 22 (.tmp 8) rfl g8 rfl L o10 32 5 Safg.underlying22 (by rw [hL]; exact Safg.size22) ?_) | (go_at_call 63; refine (fromBytes_any _ L hL dL).mono ?_; rintro e w11 ⟨rfl, b11⟩) | (go_at_call 195; refine (settle_any w11 gm gv gc 33 1 gas 0 33 ws C Ls Lc (wdOf L) (wdOf_ok dL) (h10.below b11) (by omega) (by omega) (by omega) (by omega)).mono ?_; rintro e w12 ⟨rfl, h12, T12⟩))
  go_end0
  exact ⟨rfl, h12, (T10.trans (Turn.of_below b11 (Nat.le_refl _) _)).trans T12⟩

set_option maxRecDepth 100000 in
set_option maxHeartbeats 4000000 in
theorem opPush_66 (w : World) (gm gv gc gas : Nat) (ws : Nat → Wd4) (C Ls Lc : List Nat) (h : Run w gm gv gc 66 2 gas ws C Ls Lc) (hC : C.length = 100) (dC : D.Dig C) (ho : C.getD 66 0 = 127) :
    Calls Safg.prog 251 #[.pointer (some ⟨gm, 0, none⟩)] w (RunPost (.tuple #[]) w gm gv gc 99 3 gas (MF.lay ws 2 (wdOf ((C.drop 67).take 32))) C Ls Lc) := by
  have HR := running_any w gm gv gc 66 2 gas ws C Ls Lc h
  have hL : ((C.drop 67).take 32).length = 32 := by rw [List.length_take, List.length_drop, hC]; decide
  have dL : D.Dig ((C.drop 67).take 32) := (dC.drop _).take _
  have hcell : ∀ {w : World}, Run w gm gv gc 66 2 gas ws C Ls Lc → ∀ j, j < 32 → w.cell? ⟨gc, 67 + j, none⟩ = some (.int .u8 ((((C.drop 67).take 32).getD j 0 : Nat) : Int)) := fun {w} h j hj => by
    rw [h.own.cell (67 + j) (by omega), D.getD_take hj, List.getD_eq_getElem?_getD, List.getD_eq_getElem?_getD, List.getElem?_drop]
  obtain ⟨L, hLL⟩ : ∃ L, (C.drop 67).take 32 = L := ⟨_, rfl⟩
  rw [hLL] at hL dL
  simp only [hLL] at hcell ⊢
  clear hLL
  go_enter Safg.func251, Safg.ntmps251
  go_upto_region 2 with (go_at_call 25; refine HR.mono ?_; rintro e w1 ⟨rfl, b1⟩)
  have h1 := h.below b1
  have T1 := Turn.of_below b1 (Nat.le_refl _) [gm]
  have HO : Calls Safg.prog 21 #[.pointer (some ⟨gm, 0, none⟩)] w1 fun e w' => e = .returned (.int .u8 127) ∧ Below w1.heap.size w1 w' := (opcode_any w1 gm gv gc 66 2 gas ws C Ls Lc h1 (by omega) (by omega)).mono fun e w' ⟨q1, q2⟩ => ⟨by rw [q1, ho]; rfl, q2⟩
  clear h HR b1
  go_upto_region 3 with (first | (go_at_call 21; refine HO.mono ?_; rintro e w2 ⟨rfl, b2⟩) | (go_at_call 295; refine (imm_push _).mono ?_; rintro e w3 ⟨rfl, rfl⟩))
  have h2 := h1.below b2
  have T2 := T1.trans (Turn.of_below b2 (Nat.le_refl _) _)
  obtain ⟨c0, cPh, cT, cN, cS, cPC, cSB, cSP, cG, cC⟩ := h2.cells
  rw [hC] at cC
  clear h1 T1 b2 HO
  go_upto_region 13 with (refine wpList_alloc_arr rfl 22 rfl 32 Safg.zero22 ?_; intro w4 g8 hg8 o8 b4)
  have h4 := h2.below b4
  have T4 := T2.trans (Turn.of_below b4 (Nat.le_refl _) _)
  have n8 : g8 ≠ gm := by obtain ⟨f, m, _⟩ := h2.m; have := m.lt; omega
  have n8v : gv ≠ g8 := by have := h2.lv; omega
  have n8c : gc ≠ g8 := by have := h2.own.lt; omega
  have n8w : w.heap.size ≤ g8 := Nat.le_trans T2.size hg8
  clear h2 T2 b4 c0 cPh cT cN cS cPC cSB cSP cG cC
  obtain ⟨c0, cPh, cT, cN, cS, cPC, cSB, cSP, cG, cC⟩ := h4.cells
  rw [hC] at cC
  go_upto_region 15 with fail
  clear c0 cPh cT cN cS cPC cSB cSP cG cC
  refine wp_region_held_drew (S := fun w' => Run w' gm gv gc 66 2 gas ws C Ls Lc) (by kernel_rfl) h4.drew (fun hHeld => ?_)
  refine wpAnyH_take' (i := 0) (d := 78) rfl rfl (by kernel_rfl) (by kernel_rfl) (by kernel_rfl) (fun _ _ _ h => h) (Or.inl ⟨by rfl, fun w hw => by go_simp; try rfl⟩) hHeld ?_
  try simp only [Act.put, List.setIfInBounds_toArray, List.set_cons_zero, List.set_cons_succ]
  refine wpAnyH_take' (i := 1) (d := 79) (v := .int .i64 0) rfl rfl (by kernel_rfl) (by kernel_rfl) (by kernel_rfl) (fun _ _ _ h => h) (Or.inl ⟨by rfl, fun w hw => by go_simp; try rfl⟩) hHeld ?_
  try simp only [Act.put, List.setIfInBounds_toArray, List.set_cons_zero, List.set_cons_succ]
  refine wpAnyH_take' (i := 2) (d := 80) (v := .slice (some ⟨g8, 0, none⟩) 32 32) rfl rfl (by kernel_rfl) (by kernel_rfl) (by kernel_rfl) (fun _ _ _ h => h) (Or.inl ⟨by rfl, fun w hw => by go_simp; try rfl⟩) hHeld ?_
  try simp only [Act.put, List.setIfInBounds_toArray, List.set_cons_zero, List.set_cons_succ]
  refine wpAnyH_take' (i := 3) (d := 81) rfl rfl (by kernel_rfl) (by kernel_rfl) (by kernel_rfl) (fun _ _ _ h => h) (Or.inl ⟨by rfl, fun w hw => by go_simp; try rfl⟩) hHeld ?_
  try simp only [Act.put, List.setIfInBounds_toArray, List.set_cons_zero, List.set_cons_succ]
  refine wpAnyH_take' (i := 4) (d := 82) rfl rfl (by kernel_rfl) (by kernel_rfl) (by kernel_rfl) (fun _ _ _ h => h) (Or.inl ⟨by rfl, fun w hw => by go_simp; try rfl⟩) hHeld ?_
  try simp only [Act.put, List.setIfInBounds_toArray, List.set_cons_zero, List.set_cons_succ]
  refine wpAnyH_take' (i := 5) (d := 83) rfl rfl (by kernel_rfl) (by kernel_rfl) (by kernel_rfl) (fun _ _ _ h => h) (Or.inl ⟨by rfl, fun w hw => by go_simp; try rfl⟩) hHeld ?_
  try simp only [Act.put, List.setIfInBounds_toArray, List.set_cons_zero, List.set_cons_succ]
  refine wpAnyH_take' (i := 6) (d := 84) rfl rfl (by kernel_rfl) (by kernel_rfl) (by kernel_rfl) (fun _ _ _ h => h) (Or.inl ⟨by rfl, fun w hw => by obtain ⟨c0, cPh, cT, cN, cS, cPC, cSB, cSP, cG, cC⟩ := hw.cells; rw [hC] at cC; go_simp; try rfl⟩) hHeld ?_
  try simp only [Act.put, List.setIfInBounds_toArray, List.set_cons_zero, List.set_cons_succ]
  refine wpAnyH_take' (i := 7) (d := 85) rfl rfl (by kernel_rfl) (by kernel_rfl) (by kernel_rfl) (fun _ _ _ h => h) (Or.inl ⟨by rfl, fun w hw => by go_simp; try rfl⟩) hHeld ?_
  try simp only [Act.put, List.setIfInBounds_toArray, List.set_cons_zero, List.set_cons_succ]
  refine wpAnyH_take' (i := 8) (d := 86) (v := .slice (some ⟨gc, 67, none⟩) 33 33) rfl rfl (by kernel_rfl) (by kernel_rfl) (by kernel_rfl) (fun _ _ _ h => h) (Or.inl ⟨by rfl, fun w hw => by go_simp; try rfl⟩) hHeld ?_
  try simp only [Act.put, List.setIfInBounds_toArray, List.set_cons_zero, List.set_cons_succ]
  have o9 := (Same.drew w4).own o8
  have h9 := h4.drew
  have T9 := T4.trans (Turn.drew [gm] w4)
  clear h4 T4 o8
  generalize w4.drew = w9 at *
  refine wpAnyH_one 9 (by kernel_rfl) rfl rfl ?_
  refine wp_copyB _ _ rfl g8 gc 67 32 32 33 33 rfl rfl (by omega) (List.replicate 32 0) L (by simp) hL o9 (hcell h9) ?_
  intro w10 o10 n10
  have h10 := h9.turn (Turn.of_only n10) (by simpa using Ne.symm n8) (by simpa using n8v) (by simpa using n8c)
  have T10 := T9.then_ (Turn.of_only n10) (fun i hi hl => absurd hl (by obtain rfl : i = g8 := (by simpa using hi); omega))
  refine ⟨h10, ?_⟩
  try simp only [Act.put, List.setIfInBounds_toArray, List.set_cons_zero, List.set_cons_succ]
  refine wpAnyH_done (by kernel_rfl) ?_ _
  clear hHeld h9 T9 o9 n10
  go_wp2_with (first | (refine wpList_load_arr rfl 22 (.tmp 8) rfl g8 rfl L o10 32 5 Safg.underlying22 (by rw [hL]; exact Safg.size22) ?_) | (go_at_call 63; refine (fromBytes_any _ L hL dL).mono ?_; rintro e w11 ⟨rfl, b11⟩) | (go_at_call 195; refine (settle_any w11 gm gv gc 66 2 gas 0 33 ws C Ls Lc (wdOf L) (wdOf_ok dL) (h10.below b11) (by omega) (by omega) (by omega) (by omega)).mono ?_; rintro e w12 ⟨rfl, h12, T12⟩))
  go_end0
  exact ⟨rfl, h12, (T10.trans (Turn.of_below b11 (Nat.le_refl _) _)).trans T12⟩
end Go.Proofs.YgcsafGreat
