/-
  Machine.View (9) of the law's machine.
-/
import Derived.Test.YgcsafGreatViewB
import Derived.Test.YgcsafGreatCutR
import Derived.Test.YgcsafGreatOpenV
import Derived.Test.YgcsafGreatBEW
namespace Go.Proofs.YgcsafGreat
open Go.RowKit
set_option linter.unusedVariables false
set_option linter.unusedSimpArgs false

attribute [local irreducible] beL
theorem wp_store_stb {op : Oper} {a : Act} {w : World} {K : Act → World → Prop} {Q : Exit → Act → World → Prop} (x y : Operand) (ho : op.op = .store 51 x y) (g sp i : Nat) (ws : Nat → Wd4) (hx : a.eval x = .pointer (some ⟨g, i * 32, none⟩)) (hy : a.eval y = arrV (beL (ws i))) (h : StB w g sp i ws) (hi : i < sp)
    (hK : ∀ w', StB w' g sp (i + 1) ws → Only g w w' → K (a.put op.dst undef) w') : op.wp Safg.prog a w K Q := by
  have hsz : (cellsL (beL (ws i))).toArray.size = 32 := by rw [List.size_toArray, cellsL_length, beL_length]
  refine wp_store_mid 51 x y ho g (i * 32) (cellsL (beL (ws i))).toArray hx hy (fun k hk => ⟨?_, h.free _⟩) (by rw [hsz]; exact Safg.size51) (all_oneCell_toArray (cellsL_one _)) ?_
  · rw [hsz] at hk
    have hr := h.row i hi k _ (List.getElem?_eq_getElem (by rw [StB.len]; exact hk))
    rw [hr]; rfl
  · rw [List.toList_toArray]
    exact hK _ (h.put hi) (Only.setCells _ _ (Only.refl _ _))
set_option maxRecDepth 100000 in
theorem made_3 : madeCells (arrV (List.replicate 32 0)).cells (3 * 32) = (cellsL (List.replicate (3 * 32) 0)).toArray := by kernel_rfl
set_option maxRecDepth 100000 in
set_option maxHeartbeats 16000000 in
theorem view_3 (w : World) (gm gv gc pc gas : Nat) (ws : Nat → Wd4) (C : List Nat) (h : Run w gm gv gc pc 3 gas ws C (adr 1) (adr 240)) (hpc : pc < 65536) (hg : gas < 18446744073709551616) :
    Calls Safg.prog 9 #[.pointer (some ⟨gm, 0, none⟩)] w (ViewPost pc gas 3 ws w) := by
  obtain ⟨fs, u36⟩ : ∃ fs, Safg.prog.underlying 36 = some (.struct fs) := ⟨_, rfl⟩
  obtain ⟨i51, hi51, hz51, hs51, hb51⟩ := info51'
  have z16 : bits BinOp.and IntKind.i64 0 65535 = 0 := by rfl
  have lgm : gm < w.heap.size := by obtain ⟨f, m, _⟩ := h.m; exact m.lt
  have lgv := h.lv
  have lgc := h.own.lt
  go_enter Safg.func9, Safg.ntmps9
  go_upto_region 1 with (refine wpList_alloc_agg rfl 36 rfl _ Safg.zero36 ?_; intro w1 g2 hg2 k2 b1)
  have h1 := h.below b1
  have HR := running_any w1 gm gv gc pc 3 gas ws C (adr 1) (adr 240) h1
  go_upto_region 2 with (go_at_call 25; refine HR.mono ?_; rintro e w2 ⟨rfl, b2⟩)
  have h2 := h1.below b2
  have k2 := k2.below b2 k2.lt
  have B2 := b1.trans (b2.mono b1.size)
  clear h1 HR b1 b2 h
  go_upto_region 10 with fail
  refine wp_region_held_drew (S := fun w' => Run w' gm gv gc pc 3 gas ws C (adr 1) (adr 240)) (by kernel_rfl) h2.drew (fun hHeld => ?_)
  have k2 := (Same.drew w2).blk k2
  have B2 := B2.trans ((Turn.drew_below w2).mono B2.size)
  clear h2
  generalize w2.drew = w2 at *
  have l2 := k2.lt
  apply wpAnyH_to1 (F := fun g5 w' => Run w' gm gv gc pc 3 gas ws C (adr 1) (adr 240) ∧ Blk w' g2 v0 ∧ Blk w' g5 (vL pc gas (.slice none 0 0)) ∧ w.heap.size ≤ g5 ∧ g5 ≠ g2 ∧ Below w.heap.size w w')
  case h =>
    refine wpAnyH_take' (i := 0) (d := 55) rfl rfl (by kernel_rfl) (by kernel_rfl) (by kernel_rfl) (fun _ _ _ h => h) (Or.inl ⟨by rfl, fun w hw => by go_simp; try rfl⟩) hHeld ?_
    try simp only [Act.put, List.setIfInBounds_toArray, List.set_cons_zero, List.set_cons_succ]
    refine wpAnyH_take' (i := 1) (d := 56) rfl rfl (by kernel_rfl) (by kernel_rfl) (by kernel_rfl) (fun _ _ _ h => h) (Or.inl ⟨by rfl, fun w hw => by go_simp; try rfl⟩) hHeld ?_
    try simp only [Act.put, List.setIfInBounds_toArray, List.set_cons_zero, List.set_cons_succ]
    refine wpAnyH_take' (i := 2) (d := 57) rfl rfl (by kernel_rfl) (by kernel_rfl) (by kernel_rfl) (fun _ _ _ h => h) (Or.inl ⟨by rfl, fun w hw => by go_simp; try rfl⟩) hHeld ?_
    try simp only [Act.put, List.setIfInBounds_toArray, List.set_cons_zero, List.set_cons_succ]
    refine wpAnyH_take' (i := 3) (d := 58) rfl rfl (by kernel_rfl) (by kernel_rfl) (by kernel_rfl) (fun _ _ _ h => h) (Or.inl ⟨by rfl, fun w hw => by obtain ⟨c0, cPh, cT, cN, cS, cPC, cSB, cSP, cG, cC⟩ := hw.cells; obtain ⟨c10, c1, c2, c3, cR⟩ := hw.mcells; have cLg := hw.cL; go_simp; try rfl⟩) hHeld ?_
    try simp only [Act.put, List.setIfInBounds_toArray, List.set_cons_zero, List.set_cons_succ]
    refine wpAnyH_take' (i := 4) (d := 59) rfl rfl (by kernel_rfl) (by kernel_rfl) (by kernel_rfl) (fun _ _ _ h => h) (Or.inl ⟨by rfl, fun w hw => by go_simp; try rfl⟩) hHeld ?_
    try simp only [Act.put, List.setIfInBounds_toArray, List.set_cons_zero, List.set_cons_succ]
    refine wpAnyH_take' (i := 5) (d := 60) rfl rfl (by kernel_rfl) (by kernel_rfl) (by kernel_rfl) (fun _ _ _ h => h) (Or.inl ⟨by rfl, fun w hw => by go_simp; try rfl⟩) hHeld ?_
    try simp only [Act.put, List.setIfInBounds_toArray, List.set_cons_zero, List.set_cons_succ]
    refine wpAnyH_take' (i := 6) (d := 61) rfl rfl (by kernel_rfl) (by kernel_rfl) (by kernel_rfl) (fun _ _ _ h => h) (Or.inl ⟨by rfl, fun w hw => by go_simp; try rfl⟩) hHeld ?_
    try simp only [Act.put, List.setIfInBounds_toArray, List.set_cons_zero, List.set_cons_succ]
    refine wpAnyH_take' (i := 7) (d := 62) rfl rfl (by kernel_rfl) (by kernel_rfl) (by kernel_rfl) (fun _ _ _ h => h) (Or.inl ⟨by rfl, fun w hw => by obtain ⟨c0, cPh, cT, cN, cS, cPC, cSB, cSP, cG, cC⟩ := hw.cells; obtain ⟨c10, c1, c2, c3, cR⟩ := hw.mcells; have cLg := hw.cL; go_simp; try rfl⟩) hHeld ?_
    try simp only [Act.put, List.setIfInBounds_toArray, List.set_cons_zero, List.set_cons_succ]
    refine wpAnyH_take' (i := 8) (d := 63) (v := .int .u8 0) rfl rfl (by kernel_rfl) (by kernel_rfl) (by kernel_rfl) (fun _ _ _ h => h) (Or.inl ⟨by rfl, fun w hw => by go_simp; try rfl⟩) hHeld ?_
    try simp only [Act.put, List.setIfInBounds_toArray, List.set_cons_zero, List.set_cons_succ]
    refine wpAnyH_take' (i := 9) (d := 64) rfl rfl (by kernel_rfl) (by kernel_rfl) (by kernel_rfl) (fun _ _ _ h => h) (Or.inl ⟨by rfl, fun w hw => by go_simp; try rfl⟩) hHeld ?_
    try simp only [Act.put, List.setIfInBounds_toArray, List.set_cons_zero, List.set_cons_succ]
    refine wpAnyH_take' (i := 10) (d := 65) rfl rfl (by kernel_rfl) (by kernel_rfl) (by kernel_rfl) (fun _ _ _ h => h) (Or.inl ⟨by rfl, fun w hw => by go_simp; try rfl⟩) hHeld ?_
    try simp only [Act.put, List.setIfInBounds_toArray, List.set_cons_zero, List.set_cons_succ]
    refine wpAnyH_take' (i := 11) (d := 66) rfl rfl (by kernel_rfl) (by kernel_rfl) (by kernel_rfl) (fun _ _ _ h => h) (Or.inl ⟨by rfl, fun w hw => by go_simp; try rfl⟩) hHeld ?_
    try simp only [Act.put, List.setIfInBounds_toArray, List.set_cons_zero, List.set_cons_succ]
    refine wpAnyH_take' (i := 12) (d := 67) rfl rfl (by kernel_rfl) (by kernel_rfl) (by kernel_rfl) (fun _ _ _ h => h) (Or.inl ⟨by rfl, fun w hw => by obtain ⟨c0, cPh, cT, cN, cS, cPC, cSB, cSP, cG, cC⟩ := hw.cells; obtain ⟨c10, c1, c2, c3, cR⟩ := hw.mcells; have cLg := hw.cL; go_simp; try rfl⟩) hHeld ?_
    try simp only [Act.put, List.setIfInBounds_toArray, List.set_cons_zero, List.set_cons_succ]
    refine wpAnyH_take' (i := 13) (d := 68) rfl rfl (by kernel_rfl) (by kernel_rfl) (by kernel_rfl) (fun _ _ _ h => h) (Or.inl ⟨by rfl, fun w hw => by go_simp; try rfl⟩) hHeld ?_
    try simp only [Act.put, List.setIfInBounds_toArray, List.set_cons_zero, List.set_cons_succ]
    refine wpAnyH_take' (i := 14) (d := 69) rfl rfl (by kernel_rfl) (by kernel_rfl) (by kernel_rfl) (fun _ _ _ h => h) (Or.inl ⟨by rfl, fun w hw => by go_simp; try rfl⟩) hHeld ?_
    try simp only [Act.put, List.setIfInBounds_toArray, List.set_cons_zero, List.set_cons_succ]
    refine wpAnyH_take' (i := 15) (d := 70) rfl rfl (by kernel_rfl) (by kernel_rfl) (by kernel_rfl) (fun _ _ _ h => h) (Or.inl ⟨by rfl, fun w hw => by go_simp; try rfl⟩) hHeld ?_
    try simp only [Act.put, List.setIfInBounds_toArray, List.set_cons_zero, List.set_cons_succ]
    refine wpAnyH_take' (i := 16) (d := 71) rfl rfl (by kernel_rfl) (by kernel_rfl) (by kernel_rfl) (fun _ _ _ h => h) (Or.inl ⟨by rfl, fun w hw => by obtain ⟨c0, cPh, cT, cN, cS, cPC, cSB, cSP, cG, cC⟩ := hw.cells; obtain ⟨c10, c1, c2, c3, cR⟩ := hw.mcells; have cLg := hw.cL; go_simp; try rfl⟩) hHeld ?_
    try simp only [Act.put, List.setIfInBounds_toArray, List.set_cons_zero, List.set_cons_succ]
    refine wpAnyH_take' (i := 17) (d := 72) rfl rfl (by kernel_rfl) (by kernel_rfl) (by kernel_rfl) (fun _ _ _ h => h) (Or.inl ⟨by rfl, fun w hw => by go_simp; try rfl⟩) hHeld ?_
    try simp only [Act.put, List.setIfInBounds_toArray, List.set_cons_zero, List.set_cons_succ]
    refine wpAnyH_take' (i := 18) (d := 73) rfl rfl (by kernel_rfl) (by kernel_rfl) (by kernel_rfl) (fun _ _ _ h => h) (Or.inl ⟨by rfl, fun w hw => by go_simp; try rfl⟩) hHeld ?_
    try simp only [Act.put, List.setIfInBounds_toArray, List.set_cons_zero, List.set_cons_succ]
    refine wpAnyH_take' (i := 19) (d := 74) rfl rfl (by kernel_rfl) (by kernel_rfl) (by kernel_rfl) (fun _ _ _ h => h) (Or.inl ⟨by rfl, fun w hw => by go_simp; try rfl⟩) hHeld ?_
    try simp only [Act.put, List.setIfInBounds_toArray, List.set_cons_zero, List.set_cons_succ]
    refine wpAnyH_take' (i := 20) (d := 75) rfl rfl (by kernel_rfl) (by kernel_rfl) (by kernel_rfl) (fun _ _ _ h => h) (Or.inl ⟨by rfl, fun w hw => by obtain ⟨c0, cPh, cT, cN, cS, cPC, cSB, cSP, cG, cC⟩ := hw.cells; obtain ⟨c10, c1, c2, c3, cR⟩ := hw.mcells; have cLg := hw.cL; go_simp; try rfl⟩) hHeld ?_
    try simp only [Act.put, List.setIfInBounds_toArray, List.set_cons_zero, List.set_cons_succ]
    refine wpAnyH_take' (i := 22) (d := 77) rfl rfl (by kernel_rfl) (by kernel_rfl) (by kernel_rfl) (fun _ _ _ h => h) (Or.inl ⟨by rfl, fun w hw => by go_simp; try rfl⟩) hHeld ?_
    try simp only [Act.put, List.setIfInBounds_toArray, List.set_cons_zero, List.set_cons_succ]
    refine wpAnyH_take' (i := 23) (d := 78) rfl rfl (by kernel_rfl) (by kernel_rfl) (by kernel_rfl) (fun _ _ _ h => h) (Or.inl ⟨by rfl, fun w hw => by go_simp; try rfl⟩) hHeld ?_
    try simp only [Act.put, List.setIfInBounds_toArray, List.set_cons_zero, List.set_cons_succ]
    refine wpAnyH_take' (i := 24) (d := 79) rfl rfl (by kernel_rfl) (by kernel_rfl) (by kernel_rfl) (fun _ _ _ h => h) (Or.inl ⟨by rfl, fun w hw => by go_simp; try rfl⟩) hHeld ?_
    try simp only [Act.put, List.setIfInBounds_toArray, List.set_cons_zero, List.set_cons_succ]
    refine wpAnyH_take' (i := 25) (d := 80) rfl rfl (by kernel_rfl) (by kernel_rfl) (by kernel_rfl) (fun _ _ _ h => h) (yieldsIf_load_mid (by rfl) 33 _ rfl gm 1812 rfl (cellsL (adr 1)) _ (fun w hw => by obtain ⟨f, m, mf⟩ := hw.m; exact m.range (by rw [cellsL_length]; show 1812 + 20 ≤ 2435; omega) mf.self) Safg.under33 rfl Safg.size33) hHeld ?_
    try simp only [Act.put, List.setIfInBounds_toArray, List.set_cons_zero, List.set_cons_succ]
    refine wpAnyH_take' (i := 26) (d := 81) rfl rfl (by kernel_rfl) (by kernel_rfl) (by kernel_rfl) (fun _ _ _ h => h) (Or.inl ⟨by rfl, fun w hw => by go_simp; try rfl⟩) hHeld ?_
    try simp only [Act.put, List.setIfInBounds_toArray, List.set_cons_zero, List.set_cons_succ]
    refine wpAnyH_take' (i := 27) (d := 82) rfl rfl (by kernel_rfl) (by kernel_rfl) (by kernel_rfl) (fun _ _ _ h => h) (Or.inl ⟨by rfl, fun w hw => by go_simp; try rfl⟩) hHeld ?_
    try simp only [Act.put, List.setIfInBounds_toArray, List.set_cons_zero, List.set_cons_succ]
    refine wpAnyH_take' (i := 28) (d := 83) rfl rfl (by kernel_rfl) (by kernel_rfl) (by kernel_rfl) (fun _ _ _ h => h) (Or.inl ⟨by rfl, fun w hw => by go_simp; try rfl⟩) hHeld ?_
    try simp only [Act.put, List.setIfInBounds_toArray, List.set_cons_zero, List.set_cons_succ]
    refine wpAnyH_take' (i := 29) (d := 84) rfl rfl (by kernel_rfl) (by kernel_rfl) (by kernel_rfl) (fun _ _ _ h => h) (yieldsIf_load_mid (by rfl) 33 _ rfl gm 1832 rfl (cellsL (adr 240)) _ (fun w hw => by obtain ⟨f, m, mf⟩ := hw.m; exact m.range (by rw [cellsL_length]; show 1832 + 20 ≤ 2435; omega) mf.caller) Safg.under33 rfl Safg.size33) hHeld ?_
    try simp only [Act.put, List.setIfInBounds_toArray, List.set_cons_zero, List.set_cons_succ]
    refine wpAnyH_take' (i := 30) (d := 85) rfl rfl (by kernel_rfl) (by kernel_rfl) (by kernel_rfl) (fun _ _ _ h => h) (Or.inl ⟨by rfl, fun w hw => by go_simp; try rfl⟩) hHeld ?_
    try simp only [Act.put, List.setIfInBounds_toArray, List.set_cons_zero, List.set_cons_succ]
    refine wpAnyH_take' (i := 31) (d := 86) rfl rfl (by kernel_rfl) (by kernel_rfl) (by kernel_rfl) (fun _ _ _ h => h) (Or.inl ⟨by rfl, fun w hw => by go_simp; try rfl⟩) hHeld ?_
    try simp only [Act.put, List.setIfInBounds_toArray, List.set_cons_zero, List.set_cons_succ]
    refine wpAnyH_take' (i := 32) (d := 87) rfl rfl (by kernel_rfl) (by kernel_rfl) (by kernel_rfl) (fun _ _ _ h => h) (Or.inl ⟨by rfl, fun w hw => by go_simp; try rfl⟩) hHeld ?_
    try simp only [Act.put, List.setIfInBounds_toArray, List.set_cons_zero, List.set_cons_succ]
    refine wpAnyH_take' (i := 33) (d := 88) rfl rfl (by kernel_rfl) (by kernel_rfl) (by kernel_rfl) (fun _ _ _ h => h) (Or.inl ⟨by rfl, fun w hw => by go_simp; try rfl⟩) hHeld ?_
    try simp only [Act.put, List.setIfInBounds_toArray, List.set_cons_zero, List.set_cons_succ]
    refine wpAnyH_take' (i := 34) (d := 89) rfl rfl (by kernel_rfl) (by kernel_rfl) (by kernel_rfl) (fun _ _ _ h => h) (Or.inl ⟨by rfl, fun w hw => by go_simp; try rfl⟩) hHeld ?_
    try simp only [Act.put, List.setIfInBounds_toArray, List.set_cons_zero, List.set_cons_succ]
    refine wpAnyH_take' (i := 35) (d := 90) rfl rfl (by kernel_rfl) (by kernel_rfl) (by kernel_rfl) (fun _ _ _ h => h) (Or.inl ⟨by rfl, fun w hw => by go_simp; try rfl⟩) hHeld ?_
    try simp only [Act.put, List.setIfInBounds_toArray, List.set_cons_zero, List.set_cons_succ]
    refine wpAnyH_take' (i := 38) (d := 93) rfl rfl (by kernel_rfl) (by kernel_rfl) (by kernel_rfl) (fun _ _ _ h => h) (Or.inl ⟨by rfl, fun w hw => by go_simp; try rfl⟩) hHeld ?_
    try simp only [Act.put, List.setIfInBounds_toArray, List.set_cons_zero, List.set_cons_succ]
    refine wpAnyH_take' (i := 39) (d := 94) rfl rfl (by kernel_rfl) (by kernel_rfl) (by kernel_rfl) (fun _ _ _ h => h) (Or.inl ⟨by rfl, fun w hw => by go_simp; try rfl⟩) hHeld ?_
    try simp only [Act.put, List.setIfInBounds_toArray, List.set_cons_zero, List.set_cons_succ]
    refine wpAnyH_take' (i := 40) (d := 95) rfl rfl (by kernel_rfl) (by kernel_rfl) (by kernel_rfl) (fun _ _ _ h => h) (Or.inl ⟨by rfl, fun w hw => by go_simp; try rfl⟩) hHeld ?_
    try simp only [Act.put, List.setIfInBounds_toArray, List.set_cons_zero, List.set_cons_succ]
    refine wpAnyH_take' (i := 41) (d := 96) rfl rfl (by kernel_rfl) (by kernel_rfl) (by kernel_rfl) (fun _ _ _ h => h) (Or.inl ⟨by rfl, fun w hw => by obtain ⟨c0, cPh, cT, cN, cS, cPC, cSB, cSP, cG, cC⟩ := hw.cells; obtain ⟨c10, c1, c2, c3, cR⟩ := hw.mcells; have cLg := hw.cL; go_simp; try rfl⟩) hHeld ?_
    try simp only [Act.put, List.setIfInBounds_toArray, List.set_cons_zero, List.set_cons_succ]
    refine wpAnyH_take' (i := 43) (d := 98) rfl rfl (by kernel_rfl) (by kernel_rfl) (by kernel_rfl) (fun _ _ _ h => h) (Or.inl ⟨by rfl, fun w hw => by go_simp; try rfl⟩) hHeld ?_
    try simp only [Act.put, List.setIfInBounds_toArray, List.set_cons_zero, List.set_cons_succ]
    refine wpAnyH_take' (i := 44) (d := 99) rfl rfl (by kernel_rfl) (by kernel_rfl) (by kernel_rfl) (fun _ _ _ h => h) (Or.inl ⟨by rfl, fun w hw => by go_simp; try rfl⟩) hHeld ?_
    try simp only [Act.put, List.setIfInBounds_toArray, List.set_cons_zero, List.set_cons_succ]
    refine wpAnyH_take' (i := 45) (d := 100) rfl rfl (by kernel_rfl) (by kernel_rfl) (by kernel_rfl) (fun _ _ _ h => h) (Or.inl ⟨by rfl, fun w hw => by go_simp; try rfl⟩) hHeld ?_
    try simp only [Act.put, List.setIfInBounds_toArray, List.set_cons_zero, List.set_cons_succ]
    refine wpAnyH_take' (i := 46) (d := 101) rfl rfl (by kernel_rfl) (by kernel_rfl) (by kernel_rfl) (fun _ _ _ h => h) (Or.inl ⟨by rfl, fun w hw => by obtain ⟨c0, cPh, cT, cN, cS, cPC, cSB, cSP, cG, cC⟩ := hw.cells; obtain ⟨c10, c1, c2, c3, cR⟩ := hw.mcells; have cLg := hw.cL; go_simp; try rfl⟩) hHeld ?_
    try simp only [Act.put, List.setIfInBounds_toArray, List.set_cons_zero, List.set_cons_succ]
    refine wpAnyH_take' (i := 47) (d := 102) rfl rfl (by kernel_rfl) (by kernel_rfl) (by kernel_rfl) (fun _ _ _ h => h) (Or.inl ⟨by rfl, fun w hw => by go_simp; try rfl⟩) hHeld ?_
    try simp only [Act.put, List.setIfInBounds_toArray, List.set_cons_zero, List.set_cons_succ]
    refine wpAnyH_take' (i := 48) (d := 103) rfl rfl (by kernel_rfl) (by kernel_rfl) (by kernel_rfl) (fun _ _ _ h => h) (Or.inl ⟨by rfl, fun w hw => by go_simp; try rfl⟩) hHeld ?_
    try simp only [Act.put, List.setIfInBounds_toArray, List.set_cons_zero, List.set_cons_succ]
    refine wpAnyH_take' (i := 49) (d := 104) rfl rfl (by kernel_rfl) (by kernel_rfl) (by kernel_rfl) (fun _ _ _ h => h) (Or.inl ⟨by rfl, fun w hw => by obtain ⟨c0, cPh, cT, cN, cS, cPC, cSB, cSP, cG, cC⟩ := hw.cells; obtain ⟨c10, c1, c2, c3, cR⟩ := hw.mcells; have cLg := hw.cL; go_simp; try rfl⟩) hHeld ?_
    try simp only [Act.put, List.setIfInBounds_toArray, List.set_cons_zero, List.set_cons_succ]
    refine wpAnyH_take' (i := 50) (d := 105) rfl rfl (by kernel_rfl) (by kernel_rfl) (by kernel_rfl) (fun _ _ _ h => h) (Or.inl ⟨by rfl, fun w hw => by go_simp; try rfl⟩) hHeld ?_
    try simp only [Act.put, List.setIfInBounds_toArray, List.set_cons_zero, List.set_cons_succ]
    refine wpAnyH_take' (i := 51) (d := 106) (v := .int .i64 0) rfl rfl (by kernel_rfl) (by kernel_rfl) (by kernel_rfl) (fun _ _ _ h => h) (Or.inl ⟨by rfl, fun w hw => by go_simp; first | done | exact z16⟩) hHeld ?_
    try simp only [Act.put, List.setIfInBounds_toArray, List.set_cons_zero, List.set_cons_succ]
    refine wpAnyH_take' (i := 52) (d := 107) (v := .int .u16 0) rfl rfl (by kernel_rfl) (by kernel_rfl) (by kernel_rfl) (fun _ _ _ h => h) (Or.inl ⟨by rfl, fun w hw => by go_simp; try rfl⟩) hHeld ?_
    try simp only [Act.put, List.setIfInBounds_toArray, List.set_cons_zero, List.set_cons_succ]
    refine wpAnyH_two 21 54 (by kernel_rfl) rfl rfl rfl rfl ?_ ?_
    · refine wp_callR Safg.func26 (by kernel_rfl) (by kernel_rfl) (refund_run w2 gm gv gc pc 3 gas ws C (adr 1) (adr 240) hHeld) rfl rfl ?_
      rintro e wz ⟨rfl, rfl⟩
      refine ⟨_, rfl, hHeld, ?_⟩
      try simp only [Act.put, List.setIfInBounds_toArray, List.set_cons_zero, List.set_cons_succ]
      refine wpAnyH_two 36 54 (by kernel_rfl) rfl rfl rfl rfl ?_ ?_
      · refine wp_callR Safg.func29 (by kernel_rfl) (by kernel_rfl) (len_any wz gm gv gc pc 3 gas ws C (adr 1) (adr 240) hHeld) rfl rfl ?_
        rintro e w23 ⟨rfl, bx⟩
        have hHeld := hHeld.below bx
        have k2 := k2.below bx k2.lt
        have B2 := B2.trans (bx.mono B2.size)
        clear bx
        refine ⟨_, rfl, hHeld, ?_⟩
        try simp only [Act.put, List.setIfInBounds_toArray, List.set_cons_zero, List.set_cons_succ]
        refine wpAnyH_two 37 54 (by kernel_rfl) rfl rfl rfl rfl ?_ ?_
        · refine wp_callR Safg.func28 (by kernel_rfl) (by kernel_rfl) (read_any w23 gm gv gc pc 3 gas ws C (adr 1) (adr 240) hHeld) rfl rfl ?_
          rintro e w24 ⟨rfl, bx⟩
          have hHeld := hHeld.below bx
          have k2 := k2.below bx k2.lt
          have B2 := B2.trans (bx.mono B2.size)
          clear bx
          refine ⟨_, rfl, hHeld, ?_⟩
          try simp only [Act.put, List.setIfInBounds_toArray, List.set_cons_zero, List.set_cons_succ]
          refine wpAnyH_two 42 54 (by kernel_rfl) rfl rfl rfl rfl ?_ ?_
          · refine wp_callR Safg.func27 (by kernel_rfl) (by kernel_rfl) (mcopied_nil w24) rfl rfl ?_
            rintro e wz ⟨rfl, rfl⟩
            refine ⟨_, rfl, hHeld, ?_⟩
            try simp only [Act.put, List.setIfInBounds_toArray, List.set_cons_zero, List.set_cons_succ]
            refine wpAnyH_take' (i := 53) (d := 108) rfl rfl (by kernel_rfl) (by kernel_rfl) (by kernel_rfl) (fun _ _ _ h => h) (yieldsIf_build (by rfl) 36 _ rfl [(1, .bool false), (2, .int .u8 0), (3, .int .u16 (pc : Int)), (4, .int .u64 (gas : Int)), (5, .int .u64 0), (6, arrV (adr 1)), (7, arrV (adr 240)), (9, .slice none 0 0), (10, .slice none 0 0), (11, .int .u16 0)] rfl _ (built36 pc gas)) hHeld ?_
            try simp only [Act.put, List.setIfInBounds_toArray, List.set_cons_zero, List.set_cons_succ]
            refine wpAnyH_one 54 (by kernel_rfl) rfl rfl ?_
            refine wp_allocR 36 rfl _ Safg.zero36 ?_
            intro w25 g5 hg5 k5 bx
            have n5 : g5 ≠ g2 := by have := k2.lt; omega
            have f5 : w.heap.size ≤ g5 := Nat.le_trans B2.size hg5
            have hHeld := hHeld.below bx
            have k2 := k2.below bx k2.lt
            have B2 := B2.trans (bx.mono B2.size)
            clear bx
            refine ⟨hHeld, ?_⟩
            try simp only [Act.put, List.setIfInBounds_toArray, List.set_cons_zero, List.set_cons_succ]
            refine wpAnyH_one 55 (by kernel_rfl) rfl rfl ?_
            refine wp_storeR 36 _ _ rfl g5 rfl v0 (vL pc gas (.slice none 0 0)) rfl k5 rfl Safg.size36 (vL_one _ _ _ rfl) ?_
            intro wy ky ny
            have hHeld := hHeld.turn (Turn.of_only ny) (by simp; omega) (by simp; omega) (by simp; omega)
            have k2 := OS.blk_turn k2 (Turn.of_only ny) (by simpa using Ne.symm n5)
            have B2 := B2.trans (ny.below f5)
            refine ⟨hHeld, ?_⟩
            try simp only [Act.put, List.setIfInBounds_toArray, List.set_cons_zero, List.set_cons_succ]
            refine wpAnyH_done (by kernel_rfl) ?_ _
            exact NormQ.mk ⟨g5, rfl, hHeld, k2, ky, f5, n5, B2⟩
          · refine wp_allocR 36 rfl _ Safg.zero36 ?_
            intro w26 g5 hg5 k5 bx
            have n5 : g5 ≠ g2 := by have := k2.lt; omega
            have f5 : w.heap.size ≤ g5 := Nat.le_trans B2.size hg5
            have hHeld := hHeld.below bx
            have k2 := k2.below bx k2.lt
            have B2 := B2.trans (bx.mono B2.size)
            clear bx
            refine ⟨hHeld, ?_⟩
            try simp only [Act.put, List.setIfInBounds_toArray, List.set_cons_zero, List.set_cons_succ]
            refine wpAnyH_one 42 (by kernel_rfl) rfl rfl ?_
            refine wp_callR Safg.func27 (by kernel_rfl) (by kernel_rfl) (mcopied_nil w26) rfl rfl ?_
            rintro e wz ⟨rfl, rfl⟩
            refine ⟨_, rfl, hHeld, ?_⟩
            try simp only [Act.put, List.setIfInBounds_toArray, List.set_cons_zero, List.set_cons_succ]
            refine wpAnyH_take' (i := 53) (d := 108) rfl rfl (by kernel_rfl) (by kernel_rfl) (by kernel_rfl) (fun _ _ _ h => h) (yieldsIf_build (by rfl) 36 _ rfl [(1, .bool false), (2, .int .u8 0), (3, .int .u16 (pc : Int)), (4, .int .u64 (gas : Int)), (5, .int .u64 0), (6, arrV (adr 1)), (7, arrV (adr 240)), (9, .slice none 0 0), (10, .slice none 0 0), (11, .int .u16 0)] rfl _ (built36 pc gas)) hHeld ?_
            try simp only [Act.put, List.setIfInBounds_toArray, List.set_cons_zero, List.set_cons_succ]
            refine wpAnyH_one 55 (by kernel_rfl) rfl rfl ?_
            refine wp_storeR 36 _ _ rfl g5 rfl v0 (vL pc gas (.slice none 0 0)) rfl k5 rfl Safg.size36 (vL_one _ _ _ rfl) ?_
            intro wy ky ny
            have hHeld := hHeld.turn (Turn.of_only ny) (by simp; omega) (by simp; omega) (by simp; omega)
            have k2 := OS.blk_turn k2 (Turn.of_only ny) (by simpa using Ne.symm n5)
            have B2 := B2.trans (ny.below f5)
            refine ⟨hHeld, ?_⟩
            try simp only [Act.put, List.setIfInBounds_toArray, List.set_cons_zero, List.set_cons_succ]
            refine wpAnyH_done (by kernel_rfl) ?_ _
            exact NormQ.mk ⟨g5, rfl, hHeld, k2, ky, f5, n5, B2⟩
        · refine wp_allocR 36 rfl _ Safg.zero36 ?_
          intro w27 g5 hg5 k5 bx
          have n5 : g5 ≠ g2 := by have := k2.lt; omega
          have f5 : w.heap.size ≤ g5 := Nat.le_trans B2.size hg5
          have hHeld := hHeld.below bx
          have k2 := k2.below bx k2.lt
          have B2 := B2.trans (bx.mono B2.size)
          clear bx
          refine ⟨hHeld, ?_⟩
          try simp only [Act.put, List.setIfInBounds_toArray, List.set_cons_zero, List.set_cons_succ]
          refine wpAnyH_one 37 (by kernel_rfl) rfl rfl ?_
          refine wp_callR Safg.func28 (by kernel_rfl) (by kernel_rfl) (read_any w27 gm gv gc pc 3 gas ws C (adr 1) (adr 240) hHeld) rfl rfl ?_
          rintro e w28 ⟨rfl, bx⟩
          have hHeld := hHeld.below bx
          have k2 := k2.below bx k2.lt
          have B2 := B2.trans (bx.mono B2.size)
          have k5 := k5.below bx k5.lt
          clear bx
          refine ⟨_, rfl, hHeld, ?_⟩
          try simp only [Act.put, List.setIfInBounds_toArray, List.set_cons_zero, List.set_cons_succ]
          refine wpAnyH_one 42 (by kernel_rfl) rfl rfl ?_
          refine wp_callR Safg.func27 (by kernel_rfl) (by kernel_rfl) (mcopied_nil w28) rfl rfl ?_
          rintro e wz ⟨rfl, rfl⟩
          refine ⟨_, rfl, hHeld, ?_⟩
          try simp only [Act.put, List.setIfInBounds_toArray, List.set_cons_zero, List.set_cons_succ]
          refine wpAnyH_take' (i := 53) (d := 108) rfl rfl (by kernel_rfl) (by kernel_rfl) (by kernel_rfl) (fun _ _ _ h => h) (yieldsIf_build (by rfl) 36 _ rfl [(1, .bool false), (2, .int .u8 0), (3, .int .u16 (pc : Int)), (4, .int .u64 (gas : Int)), (5, .int .u64 0), (6, arrV (adr 1)), (7, arrV (adr 240)), (9, .slice none 0 0), (10, .slice none 0 0), (11, .int .u16 0)] rfl _ (built36 pc gas)) hHeld ?_
          try simp only [Act.put, List.setIfInBounds_toArray, List.set_cons_zero, List.set_cons_succ]
          refine wpAnyH_one 55 (by kernel_rfl) rfl rfl ?_
          refine wp_storeR 36 _ _ rfl g5 rfl v0 (vL pc gas (.slice none 0 0)) rfl k5 rfl Safg.size36 (vL_one _ _ _ rfl) ?_
          intro wy ky ny
          have hHeld := hHeld.turn (Turn.of_only ny) (by simp; omega) (by simp; omega) (by simp; omega)
          have k2 := OS.blk_turn k2 (Turn.of_only ny) (by simpa using Ne.symm n5)
          have B2 := B2.trans (ny.below f5)
          refine ⟨hHeld, ?_⟩
          try simp only [Act.put, List.setIfInBounds_toArray, List.set_cons_zero, List.set_cons_succ]
          refine wpAnyH_done (by kernel_rfl) ?_ _
          exact NormQ.mk ⟨g5, rfl, hHeld, k2, ky, f5, n5, B2⟩
      · refine wp_allocR 36 rfl _ Safg.zero36 ?_
        intro w29 g5 hg5 k5 bx
        have n5 : g5 ≠ g2 := by have := k2.lt; omega
        have f5 : w.heap.size ≤ g5 := Nat.le_trans B2.size hg5
        have hHeld := hHeld.below bx
        have k2 := k2.below bx k2.lt
        have B2 := B2.trans (bx.mono B2.size)
        clear bx
        refine ⟨hHeld, ?_⟩
        try simp only [Act.put, List.setIfInBounds_toArray, List.set_cons_zero, List.set_cons_succ]
        refine wpAnyH_one 36 (by kernel_rfl) rfl rfl ?_
        refine wp_callR Safg.func29 (by kernel_rfl) (by kernel_rfl) (len_any w29 gm gv gc pc 3 gas ws C (adr 1) (adr 240) hHeld) rfl rfl ?_
        rintro e w30 ⟨rfl, bx⟩
        have hHeld := hHeld.below bx
        have k2 := k2.below bx k2.lt
        have B2 := B2.trans (bx.mono B2.size)
        have k5 := k5.below bx k5.lt
        clear bx
        refine ⟨_, rfl, hHeld, ?_⟩
        try simp only [Act.put, List.setIfInBounds_toArray, List.set_cons_zero, List.set_cons_succ]
        refine wpAnyH_one 37 (by kernel_rfl) rfl rfl ?_
        refine wp_callR Safg.func28 (by kernel_rfl) (by kernel_rfl) (read_any w30 gm gv gc pc 3 gas ws C (adr 1) (adr 240) hHeld) rfl rfl ?_
        rintro e w31 ⟨rfl, bx⟩
        have hHeld := hHeld.below bx
        have k2 := k2.below bx k2.lt
        have B2 := B2.trans (bx.mono B2.size)
        have k5 := k5.below bx k5.lt
        clear bx
        refine ⟨_, rfl, hHeld, ?_⟩
        try simp only [Act.put, List.setIfInBounds_toArray, List.set_cons_zero, List.set_cons_succ]
        refine wpAnyH_one 42 (by kernel_rfl) rfl rfl ?_
        refine wp_callR Safg.func27 (by kernel_rfl) (by kernel_rfl) (mcopied_nil w31) rfl rfl ?_
        rintro e wz ⟨rfl, rfl⟩
        refine ⟨_, rfl, hHeld, ?_⟩
        try simp only [Act.put, List.setIfInBounds_toArray, List.set_cons_zero, List.set_cons_succ]
        refine wpAnyH_take' (i := 53) (d := 108) rfl rfl (by kernel_rfl) (by kernel_rfl) (by kernel_rfl) (fun _ _ _ h => h) (yieldsIf_build (by rfl) 36 _ rfl [(1, .bool false), (2, .int .u8 0), (3, .int .u16 (pc : Int)), (4, .int .u64 (gas : Int)), (5, .int .u64 0), (6, arrV (adr 1)), (7, arrV (adr 240)), (9, .slice none 0 0), (10, .slice none 0 0), (11, .int .u16 0)] rfl _ (built36 pc gas)) hHeld ?_
        try simp only [Act.put, List.setIfInBounds_toArray, List.set_cons_zero, List.set_cons_succ]
        refine wpAnyH_one 55 (by kernel_rfl) rfl rfl ?_
        refine wp_storeR 36 _ _ rfl g5 rfl v0 (vL pc gas (.slice none 0 0)) rfl k5 rfl Safg.size36 (vL_one _ _ _ rfl) ?_
        intro wy ky ny
        have hHeld := hHeld.turn (Turn.of_only ny) (by simp; omega) (by simp; omega) (by simp; omega)
        have k2 := OS.blk_turn k2 (Turn.of_only ny) (by simpa using Ne.symm n5)
        have B2 := B2.trans (ny.below f5)
        refine ⟨hHeld, ?_⟩
        try simp only [Act.put, List.setIfInBounds_toArray, List.set_cons_zero, List.set_cons_succ]
        refine wpAnyH_done (by kernel_rfl) ?_ _
        exact NormQ.mk ⟨g5, rfl, hHeld, k2, ky, f5, n5, B2⟩
    · refine wp_allocR 36 rfl _ Safg.zero36 ?_
      intro w32 g5 hg5 k5 bx
      have n5 : g5 ≠ g2 := by have := k2.lt; omega
      have f5 : w.heap.size ≤ g5 := Nat.le_trans B2.size hg5
      have hHeld := hHeld.below bx
      have k2 := k2.below bx k2.lt
      have B2 := B2.trans (bx.mono B2.size)
      clear bx
      refine ⟨hHeld, ?_⟩
      try simp only [Act.put, List.setIfInBounds_toArray, List.set_cons_zero, List.set_cons_succ]
      refine wpAnyH_one 21 (by kernel_rfl) rfl rfl ?_
      refine wp_callR Safg.func26 (by kernel_rfl) (by kernel_rfl) (refund_run w32 gm gv gc pc 3 gas ws C (adr 1) (adr 240) hHeld) rfl rfl ?_
      rintro e wz ⟨rfl, rfl⟩
      refine ⟨_, rfl, hHeld, ?_⟩
      try simp only [Act.put, List.setIfInBounds_toArray, List.set_cons_zero, List.set_cons_succ]
      refine wpAnyH_one 36 (by kernel_rfl) rfl rfl ?_
      refine wp_callR Safg.func29 (by kernel_rfl) (by kernel_rfl) (len_any wz gm gv gc pc 3 gas ws C (adr 1) (adr 240) hHeld) rfl rfl ?_
      rintro e w33 ⟨rfl, bx⟩
      have hHeld := hHeld.below bx
      have k2 := k2.below bx k2.lt
      have B2 := B2.trans (bx.mono B2.size)
      have k5 := k5.below bx k5.lt
      clear bx
      refine ⟨_, rfl, hHeld, ?_⟩
      try simp only [Act.put, List.setIfInBounds_toArray, List.set_cons_zero, List.set_cons_succ]
      refine wpAnyH_one 37 (by kernel_rfl) rfl rfl ?_
      refine wp_callR Safg.func28 (by kernel_rfl) (by kernel_rfl) (read_any w33 gm gv gc pc 3 gas ws C (adr 1) (adr 240) hHeld) rfl rfl ?_
      rintro e w34 ⟨rfl, bx⟩
      have hHeld := hHeld.below bx
      have k2 := k2.below bx k2.lt
      have B2 := B2.trans (bx.mono B2.size)
      have k5 := k5.below bx k5.lt
      clear bx
      refine ⟨_, rfl, hHeld, ?_⟩
      try simp only [Act.put, List.setIfInBounds_toArray, List.set_cons_zero, List.set_cons_succ]
      refine wpAnyH_one 42 (by kernel_rfl) rfl rfl ?_
      refine wp_callR Safg.func27 (by kernel_rfl) (by kernel_rfl) (mcopied_nil w34) rfl rfl ?_
      rintro e wz ⟨rfl, rfl⟩
      refine ⟨_, rfl, hHeld, ?_⟩
      try simp only [Act.put, List.setIfInBounds_toArray, List.set_cons_zero, List.set_cons_succ]
      refine wpAnyH_take' (i := 53) (d := 108) rfl rfl (by kernel_rfl) (by kernel_rfl) (by kernel_rfl) (fun _ _ _ h => h) (yieldsIf_build (by rfl) 36 _ rfl [(1, .bool false), (2, .int .u8 0), (3, .int .u16 (pc : Int)), (4, .int .u64 (gas : Int)), (5, .int .u64 0), (6, arrV (adr 1)), (7, arrV (adr 240)), (9, .slice none 0 0), (10, .slice none 0 0), (11, .int .u16 0)] rfl _ (built36 pc gas)) hHeld ?_
      try simp only [Act.put, List.setIfInBounds_toArray, List.set_cons_zero, List.set_cons_succ]
      refine wpAnyH_one 55 (by kernel_rfl) rfl rfl ?_
      refine wp_storeR 36 _ _ rfl g5 rfl v0 (vL pc gas (.slice none 0 0)) rfl k5 rfl Safg.size36 (vL_one _ _ _ rfl) ?_
      intro wy ky ny
      have hHeld := hHeld.turn (Turn.of_only ny) (by simp; omega) (by simp; omega) (by simp; omega)
      have k2 := OS.blk_turn k2 (Turn.of_only ny) (by simpa using Ne.symm n5)
      have B2 := B2.trans (ny.below f5)
      refine ⟨hHeld, ?_⟩
      try simp only [Act.put, List.setIfInBounds_toArray, List.set_cons_zero, List.set_cons_succ]
      refine wpAnyH_done (by kernel_rfl) ?_ _
      exact NormQ.mk ⟨g5, rfl, hHeld, k2, ky, f5, n5, B2⟩
  case hn =>
    intro g5 w5 ⟨h5, k2, k5, f5, n5, B5⟩
    clear hHeld B2 l2 z16
    go_upto_region 11 with fail
    refine wp_region_held_drew (S := fun w' => Run w' gm gv gc pc 3 gas ws C (adr 1) (adr 240)) (by kernel_rfl) h5.drew (fun hHeld => ?_)
    refine wpAnyH_take' (i := 0) (d := 109) rfl rfl (by kernel_rfl) (by kernel_rfl) (by kernel_rfl) (fun _ _ _ h => h) (Or.inl ⟨by rfl, fun w hw => by go_simp; try rfl⟩) hHeld ?_
    try simp only [Act.put, List.setIfInBounds_toArray, List.set_cons_zero, List.set_cons_succ]
    refine wpAnyH_take' (i := 1) (d := 110) rfl rfl (by kernel_rfl) (by kernel_rfl) (by kernel_rfl) (fun _ _ _ h => h) (Or.inl ⟨by rfl, fun w hw => by go_simp; try rfl⟩) hHeld ?_
    try simp only [Act.put, List.setIfInBounds_toArray, List.set_cons_zero, List.set_cons_succ]
    refine wpAnyH_take' (i := 2) (d := 111) rfl rfl (by kernel_rfl) (by kernel_rfl) (by kernel_rfl) (fun _ _ _ h => h) (Or.inl ⟨by rfl, fun w hw => by go_simp; try rfl⟩) hHeld ?_
    try simp only [Act.put, List.setIfInBounds_toArray, List.set_cons_zero, List.set_cons_succ]
    refine wpAnyH_take' (i := 3) (d := 112) rfl rfl (by kernel_rfl) (by kernel_rfl) (by kernel_rfl) (fun _ _ _ h => h) (Or.inl ⟨by rfl, fun w hw => by obtain ⟨c0, cPh, cT, cN, cS, cPC, cSB, cSP, cG, cC⟩ := hw.cells; obtain ⟨c10, c1, c2, c3, cR⟩ := hw.mcells; have cLg := hw.cL; go_simp; try rfl⟩) hHeld ?_
    try simp only [Act.put, List.setIfInBounds_toArray, List.set_cons_zero, List.set_cons_succ]
    refine wpAnyH_take' (i := 4) (d := 113) (v := .bool false) rfl rfl (by kernel_rfl) (by kernel_rfl) (by kernel_rfl) (fun _ _ _ h => h) (Or.inl ⟨by rfl, fun w hw => by go_simp; try rfl⟩) hHeld ?_
    try simp only [Act.put, List.setIfInBounds_toArray, List.set_cons_zero, List.set_cons_succ]
    refine wpAnyH_take' (i := 5) (d := 114) rfl rfl (by kernel_rfl) (by kernel_rfl) (by kernel_rfl) (fun _ _ _ h => h) (Or.inl ⟨by rfl, fun w hw => by go_simp; try rfl⟩) hHeld ?_
    try simp only [Act.put, List.setIfInBounds_toArray, List.set_cons_zero, List.set_cons_succ]
    refine wpAnyH_take' (i := 6) (d := 115) rfl rfl (by kernel_rfl) (by kernel_rfl) (by kernel_rfl) (fun _ _ _ h => h) (Or.inl ⟨by rfl, fun w hw => by go_simp; try rfl⟩) hHeld ?_
    try simp only [Act.put, List.setIfInBounds_toArray, List.set_cons_zero, List.set_cons_succ]
    refine wpAnyH_take' (i := 7) (d := 116) rfl rfl (by kernel_rfl) (by kernel_rfl) (by kernel_rfl) (fun _ _ _ h => h) (Or.inl ⟨by rfl, fun w hw => by go_simp; try rfl⟩) hHeld ?_
    try simp only [Act.put, List.setIfInBounds_toArray, List.set_cons_zero, List.set_cons_succ]
    refine wpAnyH_take' (i := 8) (d := 117) rfl rfl (by kernel_rfl) (by kernel_rfl) (by kernel_rfl) (fun _ _ _ h => h) (Or.inl ⟨by rfl, fun w hw => by go_simp; try rfl⟩) hHeld ?_
    try simp only [Act.put, List.setIfInBounds_toArray, List.set_cons_zero, List.set_cons_succ]
    refine wpAnyH_take' (i := 9) (d := 118) rfl rfl (by kernel_rfl) (by kernel_rfl) (by kernel_rfl) (fun _ _ _ h => h) (Or.inl ⟨by rfl, fun w hw => by obtain ⟨c0, cPh, cT, cN, cS, cPC, cSB, cSP, cG, cC⟩ := hw.cells; obtain ⟨c10, c1, c2, c3, cR⟩ := hw.mcells; have cLg := hw.cL; go_simp; try rfl⟩) hHeld ?_
    try simp only [Act.put, List.setIfInBounds_toArray, List.set_cons_zero, List.set_cons_succ]
    refine wpAnyH_take' (i := 10) (d := 119) rfl rfl (by kernel_rfl) (by kernel_rfl) (by kernel_rfl) (fun _ _ _ h => h) (Or.inl ⟨by rfl, fun w hw => by go_simp; try rfl⟩) hHeld ?_
    try simp only [Act.put, List.setIfInBounds_toArray, List.set_cons_zero, List.set_cons_succ]
    refine wpAnyH_take' (i := 11) (d := 120) rfl rfl (by kernel_rfl) (by kernel_rfl) (by kernel_rfl) (fun _ _ _ h => h) (Or.inl ⟨by rfl, fun w hw => by go_simp; try rfl⟩) hHeld ?_
    try simp only [Act.put, List.setIfInBounds_toArray, List.set_cons_zero, List.set_cons_succ]
    refine wpAnyH_take' (i := 12) (d := 121) rfl rfl (by kernel_rfl) (by kernel_rfl) (by kernel_rfl) (fun _ _ _ h => h) (Or.inl ⟨by rfl, fun w hw => by go_simp; try rfl⟩) hHeld ?_
    try simp only [Act.put, List.setIfInBounds_toArray, List.set_cons_zero, List.set_cons_succ]
    refine wpAnyH_take' (i := 13) (d := 122) rfl rfl (by kernel_rfl) (by kernel_rfl) (by kernel_rfl) (fun _ _ _ h => h) (Or.inl ⟨by rfl, fun w hw => by go_simp; try rfl⟩) hHeld ?_
    try simp only [Act.put, List.setIfInBounds_toArray, List.set_cons_zero, List.set_cons_succ]
    refine wpAnyH_take' (i := 14) (d := 123) rfl rfl (by kernel_rfl) (by kernel_rfl) (by kernel_rfl) (fun _ _ _ h => h) (Or.inl ⟨by rfl, fun w hw => by obtain ⟨c0, cPh, cT, cN, cS, cPC, cSB, cSP, cG, cC⟩ := hw.cells; obtain ⟨c10, c1, c2, c3, cR⟩ := hw.mcells; have cLg := hw.cL; go_simp; try rfl⟩) hHeld ?_
    try simp only [Act.put, List.setIfInBounds_toArray, List.set_cons_zero, List.set_cons_succ]
    refine wpAnyH_take' (i := 15) (d := 124) rfl rfl (by kernel_rfl) (by kernel_rfl) (by kernel_rfl) (fun _ _ _ h => h) (Or.inl ⟨by rfl, fun w hw => by go_simp; try rfl⟩) hHeld ?_
    try simp only [Act.put, List.setIfInBounds_toArray, List.set_cons_zero, List.set_cons_succ]
    refine wpAnyH_take' (i := 16) (d := 125) (v := .int .i64 3) rfl rfl (by kernel_rfl) (by kernel_rfl) (by kernel_rfl) (fun _ _ _ h => h) (Or.inl ⟨by rfl, fun w hw => by go_simp; try rfl⟩) hHeld ?_
    try simp only [Act.put, List.setIfInBounds_toArray, List.set_cons_zero, List.set_cons_succ]
    refine wpAnyH_take' (i := 17) (d := 126) (v := .bool false) rfl rfl (by kernel_rfl) (by kernel_rfl) (by kernel_rfl) (fun _ _ _ h => h) (Or.inl ⟨by rfl, fun w hw => by go_simp; try rfl⟩) hHeld ?_
    try simp only [Act.put, List.setIfInBounds_toArray, List.set_cons_zero, List.set_cons_succ]
    refine wpAnyH_take' (i := 18) (d := 127) rfl rfl (by kernel_rfl) (by kernel_rfl) (by kernel_rfl) (fun _ _ _ h => h) (Or.inl ⟨by rfl, fun w hw => by go_simp; try rfl⟩) hHeld ?_
    try simp only [Act.put, List.setIfInBounds_toArray, List.set_cons_zero, List.set_cons_succ]
    refine wpAnyH_done (by kernel_rfl) ?_ _
    have k2 := (Same.drew w5).blk k2
    have k5 := (Same.drew w5).blk k5
    have B5 := B5.trans ((Turn.drew_below w5).mono B5.size)
    clear h5
    generalize w5.drew = w5 at *
    obtain ⟨c0, cPh, cT, cN, cS, cPC, cSB, cSP, cG, cC⟩ := hHeld.cells
    go_upto_region 13 with fail
    go_upto_region 14 with (refine wpList_make_rows _ rfl (.tmp 132) 34 51 rfl Safg.under34 i51 _ hi51 hz51 .u16 3 rfl (by omega) (by omega) (cellsL (List.replicate (3 * 32) 0)) (by rw [hs51]; exact made_3) ?_; intro w6 gS hgS kS b6; have k5' := k5.below b6 k5.lt; have d46 : w6.cell? ⟨g5, 46, none⟩ = some (.slice none 0 0) := k5'.get rfl; have z46 := k5'.free 46)
    have h6 := hHeld.below b6
    have hS2 : gS ≠ g2 := by have := k2.lt; omega
    have k2 := k2.below b6 k2.lt
    have l5 := k5'.lt
    have l52 := k5.lt
    have B6 := B5.trans (b6.mono B5.size)
    have hS5 : gS ≠ g5 := by omega
    have hSw : w.heap.size ≤ gS := Nat.le_trans B5.size hgS
    have nmS : gm ∉ [gS] := by simp; omega
    have nvS : gv ∉ [gS] := by simp; omega
    have ncS : gc ∉ [gS] := by simp; omega
    have n7 := (Only.refl g5 w6).setCell 46 (.slice (some ⟨gS, 0, none⟩) 3 3)
    have k7 := k5'.set (k := 46) (by rw [vL_length]; omega) (.slice (some ⟨gS, 0, none⟩) 3 3)
    rw [vL_st] at k7
    have h7 := h6.turn (Turn.of_only n7) (by simp; omega) (by simp; omega) (by simp; omega)
    have k27 := OS.blk_turn k2 (Turn.of_only n7) (by simpa using Ne.symm n5)
    have B7 := B6.trans (n7.below f5)
    have sb7 := (StB.zero (ws := ws) kS).turn (Turn.of_only n7) (by simpa using hS5)
    clear hHeld k5 k5' d46 z46 n7 b6 B5 B6 h6 k2 kS c0 cPh cT cN cS cPC cSB cSP cG cC
    generalize w6.setCell ⟨g5, 46, none⟩ (.slice (some ⟨gS, 0, none⟩) 3 3) = w7 at *
    have d46 : w7.cell? ⟨g5, 46, none⟩ = some (.slice (some ⟨gS, 0, none⟩) 3 3) := k7.get rfl
    go_upto_region 15 with fail
    go_loopw [138] (fun i wr => ∃ j : Nat, j ≤ 3 ∧ i = .int .i64 j ∧ Run wr gm gv gc pc 3 gas ws C (adr 1) (adr 240) ∧ Blk wr g2 v0 ∧ Blk wr g5 (vL pc gas (.slice (some ⟨gS, 0, none⟩) 3 3)) ∧ StB wr gS 3 j ws ∧ Below w.heap.size w wr) (fun i _ => 3 - (intOf i).toNat)
    case atStart => exact ⟨0, by omega, rfl, h7, k27, k7, sb7, B7⟩
    case round =>
      clear h7 k27 k7 sb7 B7 d46
      obtain ⟨j, hj, rfl, hr, kr2, kr5, sr, Br⟩ := hrel
      rcases Nat.lt_or_ge j 3 with hlt | hge
      · have q1 : decide ((j : Int) < 3) = true := decide_eq_true (by omega)
        have q2 : (0 : Int) ≤ j := by omega
        have q3 : (j : Int) < 3 := by omega
        have q4 : (j : Int) < 448 := by omega
        have q5 : IntKind.i64.wrap (j : Int) = (j : Int) := by simp [IntKind.wrap, IntKind.bits, IntKind.signed]; omega
        have qj : IntKind.i64.wrap (IntKind.i64.wrap 0 + (j : Int)) = (j : Int) := by
          have z : IntKind.i64.wrap 0 = 0 := rfl
          rw [z, Int.zero_add, q5]
        have okj : (ws j).Ok := by obtain ⟨f, m, mf⟩ := hr.m; exact mf.ok j hlt
        go_upto_region 17 with fail
        refine wp_region_held_drew (S := fun w' => Run w' gm gv gc pc 3 gas ws C (adr 1) (adr 240) ∧ Blk w' g5 (vL pc gas (.slice (some ⟨gS, 0, none⟩) 3 3))) (by kernel_rfl) ⟨hr.drew, (Same.drew wr).blk kr5⟩ (fun hHeld => ?_)
        refine wpAnyH_take' (i := 0) (d := 141) rfl rfl (by kernel_rfl) (by kernel_rfl) (by kernel_rfl) (fun _ _ _ h => h) (Or.inl ⟨by rfl, fun w hw => by go_simp; try rfl⟩) hHeld ?_
        try simp only [Act.put, List.setIfInBounds_toArray, List.set_cons_zero, List.set_cons_succ]
        refine wpAnyH_take' (i := 1) (d := 142) rfl rfl (by kernel_rfl) (by kernel_rfl) (by kernel_rfl) (fun _ _ _ h => h) (Or.inl ⟨by rfl, fun w hw => by obtain ⟨hw, hw5⟩ := hw; have d46 : w.cell? ⟨g5, 46, none⟩ = some (.slice (some ⟨gS, 0, none⟩) 3 3) := hw5.get rfl; obtain ⟨c0, cPh, cT, cN, cS, cPC, cSB, cSP, cG, cC⟩ := hw.cells; obtain ⟨c10, c1, c2, c3, cR⟩ := hw.mcells; have cLg := hw.cL; go_simp; try rfl⟩) hHeld ?_
        try simp only [Act.put, List.setIfInBounds_toArray, List.set_cons_zero, List.set_cons_succ]
        refine wpAnyH_take' (i := 2) (d := 143) rfl rfl (by kernel_rfl) (by kernel_rfl) (by kernel_rfl) (fun _ _ _ h => h) (Or.inl ⟨by rfl, fun w hw => by go_simp; try rfl⟩) hHeld ?_
        try simp only [Act.put, List.setIfInBounds_toArray, List.set_cons_zero, List.set_cons_succ]
        refine wpAnyH_take' (i := 3) (d := 144) rfl rfl (by kernel_rfl) (by kernel_rfl) (by kernel_rfl) (fun _ _ _ h => h) (Or.inl ⟨by rfl, fun w hw => by go_simp; try rfl⟩) hHeld ?_
        try simp only [Act.put, List.setIfInBounds_toArray, List.set_cons_zero, List.set_cons_succ]
        refine wpAnyH_take' (i := 4) (d := 145) rfl rfl (by kernel_rfl) (by kernel_rfl) (by kernel_rfl) (fun _ _ _ h => h) (Or.inl ⟨by rfl, fun w hw => by go_simp; try rfl⟩) hHeld ?_
        try simp only [Act.put, List.setIfInBounds_toArray, List.set_cons_zero, List.set_cons_succ]
        refine wpAnyH_take' (i := 5) (d := 146) rfl rfl (by kernel_rfl) (by kernel_rfl) (by kernel_rfl) (fun _ _ _ h => h) (Or.inl ⟨by rfl, fun w hw => by go_simp; try rfl⟩) hHeld ?_
        try simp only [Act.put, List.setIfInBounds_toArray, List.set_cons_zero, List.set_cons_succ]
        refine wpAnyH_take' (i := 6) (d := 147) rfl rfl (by kernel_rfl) (by kernel_rfl) (by kernel_rfl) (fun _ _ _ h => h) (Or.inl ⟨by rfl, fun w hw => by go_simp; try rfl⟩) hHeld ?_
        try simp only [Act.put, List.setIfInBounds_toArray, List.set_cons_zero, List.set_cons_succ]
        refine wpAnyH_take' (i := 7) (d := 148) rfl rfl (by kernel_rfl) (by kernel_rfl) (by kernel_rfl) (fun _ _ _ h => h) (Or.inl ⟨by rfl, fun w hw => by obtain ⟨hw, hw5⟩ := hw; have d46 : w.cell? ⟨g5, 46, none⟩ = some (.slice (some ⟨gS, 0, none⟩) 3 3) := hw5.get rfl; obtain ⟨c0, cPh, cT, cN, cS, cPC, cSB, cSP, cG, cC⟩ := hw.cells; obtain ⟨c10, c1, c2, c3, cR⟩ := hw.mcells; have cLg := hw.cL; go_simp; try rfl⟩) hHeld ?_
        try simp only [Act.put, List.setIfInBounds_toArray, List.set_cons_zero, List.set_cons_succ]
        refine wpAnyH_take' (i := 8) (d := 149) rfl rfl (by kernel_rfl) (by kernel_rfl) (by kernel_rfl) (fun _ _ _ h => h) (Or.inl ⟨by rfl, fun w hw => by go_simp; try rfl⟩) hHeld ?_
        try simp only [Act.put, List.setIfInBounds_toArray, List.set_cons_zero, List.set_cons_succ]
        refine wpAnyH_take' (i := 9) (d := 150) rfl rfl (by kernel_rfl) (by kernel_rfl) (by kernel_rfl) (fun _ _ _ h => h) (Or.inl ⟨by rfl, fun w hw => by go_simp; try rfl⟩) hHeld ?_
        try simp only [Act.put, List.setIfInBounds_toArray, List.set_cons_zero, List.set_cons_succ]
        refine wpAnyH_take' (i := 10) (d := 151) (v := .int .i64 (j : Int)) rfl rfl (by kernel_rfl) (by kernel_rfl) (by kernel_rfl) (fun _ _ _ h => h) (Or.inl ⟨by rfl, fun w hw => by go_simp; first | done | exact qj⟩) hHeld ?_
        try simp only [Act.put, List.setIfInBounds_toArray, List.set_cons_zero, List.set_cons_succ]
        refine wpAnyH_take' (i := 11) (d := 152) rfl rfl (by kernel_rfl) (by kernel_rfl) (by kernel_rfl) (fun _ _ _ h => h) (Or.inl ⟨by rfl, fun w hw => by go_simp; try rfl⟩) hHeld ?_
        try simp only [Act.put, List.setIfInBounds_toArray, List.set_cons_zero, List.set_cons_succ]
        refine wpAnyH_take' (i := 12) (d := 153) rfl rfl (by kernel_rfl) (by kernel_rfl) (by kernel_rfl) (fun _ _ _ h => h) (Or.inl ⟨by rfl, fun w hw => by go_simp; try rfl⟩) hHeld ?_
        try simp only [Act.put, List.setIfInBounds_toArray, List.set_cons_zero, List.set_cons_succ]
        refine wpAnyH_take' (i := 13) (d := 154) rfl rfl (by kernel_rfl) (by kernel_rfl) (by kernel_rfl) (fun _ _ _ h => h) (Or.inl ⟨by rfl, fun w hw => by go_simp; try rfl⟩) hHeld ?_
        try simp only [Act.put, List.setIfInBounds_toArray, List.set_cons_zero, List.set_cons_succ]
        refine wpAnyH_take' (i := 14) (d := 155) rfl rfl (by kernel_rfl) (by kernel_rfl) (by kernel_rfl) (fun _ _ _ h => h) (yieldsIf_load_mid (by rfl) 65 _ rfl gm (11 + j * 4) rfl (ws j).cells _ (fun w hw => hw.1.word (by omega) hlt) Safg.under65 rfl Safg.size65) hHeld ?_
        try simp only [Act.put, List.setIfInBounds_toArray, List.set_cons_zero, List.set_cons_succ]
        clear qj q5
        refine wpAnyH_one 15 (by kernel_rfl) rfl rfl ?_
        refine wp_callR Safg.func30 (by kernel_rfl) (by kernel_rfl) (be32W_any wr.drew (ws j) okj) rfl rfl ?_
        rintro e w8 ⟨rfl, b8⟩
        have S8 : Run w8 gm gv gc pc 3 gas ws C (adr 1) (adr 240) ∧ Blk w8 g5 (vL pc gas (.slice (some ⟨gS, 0, none⟩) 3 3)) := ⟨hHeld.1.below b8, hHeld.2.below b8 hHeld.2.lt⟩
        refine ⟨_, rfl, S8, ?_⟩
        try simp only [Act.put, List.setIfInBounds_toArray, List.set_cons_zero, List.set_cons_succ]
        refine wpAnyH_take' (i := 16) (d := 157) (v := .pointer (some ⟨gS, j * 32, none⟩)) rfl rfl (by kernel_rfl) (by kernel_rfl) (by kernel_rfl) (fun _ _ _ h => h) (Or.inl ⟨by rfl, fun w hw => by go_simp; try rfl⟩) S8 ?_
        try simp only [Act.put, List.setIfInBounds_toArray, List.set_cons_zero, List.set_cons_succ]
        have bd : Below wr.heap.size wr w8 := (Turn.drew_below wr).trans (b8.mono (Nat.le_refl _))
        have s8 := sr.below bd
        have kr2 := kr2.below bd kr2.lt
        have B8 := Br.trans (bd.mono Br.size)
        refine wpAnyH_one 17 (by kernel_rfl) rfl rfl ?_
        refine wp_store_stb _ _ rfl gS 3 j ws rfl rfl s8 hlt ?_
        intro w9 s9 n9
        have h9 := S8.1.turn (Turn.of_only n9) nmS nvS ncS
        have k59 := OS.blk_turn S8.2 (Turn.of_only n9) (by simpa using Ne.symm hS5)
        have k29 := OS.blk_turn kr2 (Turn.of_only n9) (by simpa using Ne.symm hS2)
        have B9 := B8.trans (n9.below hSw)
        refine ⟨⟨h9, k59⟩, ?_⟩
        try simp only [Act.put, List.setIfInBounds_toArray, List.set_cons_zero, List.set_cons_succ]
        refine wpAnyH_done (by kernel_rfl) ?_ _
        clear hHeld S8 s8 kr2 B8 n9 bd b8 hr kr5 sr Br
        go_wp2
        go_roundw
        case rel => exact ⟨j + 1, by omega, by go_num, h9, k29, k59, s9, B9⟩
        case measure => simp [intOf]; omega
      · obtain rfl : j = 3 := by omega
        go_wp2_with (first | (refine wpList_load_mid rfl 36 (.tmp 5) rfl g5 0 rfl (vL pc gas (.slice (some ⟨gS, 0, none⟩) 3 3)) _ kr5.cell u36 rfl Safg.size36 ?_) | (refine wpList_store_agg rfl 36 (.tmp 2) _ rfl g2 rfl v0 (vL pc gas (.slice (some ⟨gS, 0, none⟩) 3 3)) rfl kr2 rfl Safg.size36 (vL_one _ _ _ rfl) ?_; intro w9 k9 n9))
        refine bodyPost_ret (results_cell1 Safg.results9 _ w9 g2 _ _ rfl k9 u36 rfl Safg.size36) rfl ⟨gS, rfl, hSw, sr.turn (Turn.of_only n9) (by simpa using hS2), Br.trans (n9.below hg2)⟩
end Go.Proofs.YgcsafGreat
