/-
  engine.Open (18) of the law's transaction.
-/
import Derived.Test.YgcsafGreatOpenV
namespace Go.Proofs.YgcsafGreat
open Go.RowKit
set_option linter.unusedVariables false
set_option linter.unusedSimpArgs false

/-- The vault's table at the stage. -/
def tb0 : Nat → Int := putTab (putTab (fun _ => -1) 948 0) 3038 1
theorem ocells {B : Nat} {w0 w : World} {gm gv gx : Nat} {f : Nat → Value} {s : Vst} {ks : List (Nat × List Value)} (h : OS B w0 w gm gv f s ks) (hx : (gx, txL) ∈ ks) :
    w.cell? ⟨gm, 0, none⟩ = some (.pointer (some ⟨gv, 0, none⟩)) ∧ w.cell? ⟨gx, 40, none⟩ = some (.bool false) ∧ w.cell? ⟨gx, 41, none⟩ = some (.int .u64 0) ∧ w.cell? ⟨gx, 42, none⟩ = some (.int .u64 200000) ∧ w.cell? ⟨gx, 107, none⟩ = some (.slice none 0 0) ∧ w.cell? ⟨gx, 173, none⟩ = some (.slice none 0 0) := by
  have k := h.blk hx
  refine ⟨?_, k.get rfl, k.get rfl, k.get rfl, k.get rfl, k.get rfl⟩
  rw [h.m.cell 0 (by omega), h.o.s]

set_option maxRecDepth 100000 in
set_option maxHeartbeats 16000000 in
theorem open_tx (B : Nat) (w0 w : World) (gm gv gK o : Nat) (f : Nat → Value) (s : Vst) (ks : List (Nat × List Value)) (x0 x1 : Ac) (C : List Nat) (h : OS B w0 w gm gv f s ((gK, cellsL C) :: ks)) (hf : VF f) (v : VAt s [x0, x1] tb0 0)
    (a0 : x0.addr = adr 1) (a1 : x1.addr = adr 240) (n1 : x1.nonce = 0) (p1 : x1.code = .slice none 0 0) (m0 : x0.warm = false) (m1 : x1.warm = false) (p0 : x0.code = .slice (some ⟨gK, 0, none⟩) 100 100) (hC : Code4 C o) (dC : D.Dig C) :
    Calls Safg.prog 18 #[.pointer (some ⟨gm, 0, none⟩), .agg txL.toArray] w fun e w' => e = .returned (.int .u8 0) ∧ ∃ gk, Run w' gm gv gk 0 0 179000 (fun _ => Wd4.zero) C (adr 1) (adr 240) ∧ Below B w0 w' := by
  obtain ⟨fs, u58⟩ := Safg.under58
  obtain ⟨fs70, u70⟩ : ∃ fs, Safg.prog.underlying 70 = some (.struct fs) := ⟨_, rfl⟩
  go_enter Safg.func18, Safg.ntmps18
  go_upto_region 1 with (refine wpList_box_agg rfl 58 (.tmp 1) rfl txL rfl ?_; intro w1 gx hgx kx b1)
  have o1 := h.add b1 hgx kx
  clear h b1 kx
  have HV := verdict_tx B w0 w1 gm gv f s _ o1 hf 1 x1 (by rw [v.a]; rfl) a1 (by rw [v.t]; exact (by simp [putTab, tb0, home_240])) n1 p1
  have kx := o1.blk (g := gx) (cs := txL) (by simp)
  go_upto_region 4 with (first | (refine wpList_load_mid rfl 58 (.tmp 3) rfl gx 0 rfl txL _ kx.cell u58 rfl Safg.size58 ?_) | (go_at_call 51; refine HV.mono ?_; rintro e w2 ⟨rfl, b2⟩) | (refine wpList_alloc_agg rfl 65 rfl _ Safg.zero65 ?_; intro w3 g6 hg6 k6 b3) | (refine wpList_store_self rfl 65 (.tmp 6) _ rfl g6 0 Wd4.zero.cells rfl rfl k6.cell k6.free Safg.size65 (Wd4.one _) ?_))
  have o3 := (o1.below b2).add b3 hg6 k6
  have HSp := spacious_any B w3 gm gv f s o3.m o3.o.s o3.o.mtop o3.o.top o3.v (by rw [v.n]; omega)
  have HSz : ∀ w, VOk B w gv s → Calls Safg.prog 53 #[.pointer (some ⟨gv, 0, none⟩)] w fun e w' => e = .returned (.tuple #[.int .i32 2, .int .i32 0, .int .i32 0, .int .i32 0]) ∧ Same w w' := fun w hv => (sizes_any B w gv s hv (by rw [v.n]; omega)).mono fun e w' ⟨h1, h2⟩ => ⟨by rw [h1, v.a, v.j, v.n]; rfl, h2⟩
  clear o1 b2 b3 k6 kx HV
  go_upto_region 6 with (go_at_call 52; refine HSp.mono ?_; rintro e w4 ⟨rfl, sm4⟩)
  have o4 := o3.same sm4
  obtain ⟨c0, x40, x41, x42, x107, x173⟩ := ocells o4 (gx := gx) (by simp)
  clear HSp sm4 o3
  go_upto_region 7 with (go_at_call 53; refine (HSz w4 o4.v).mono ?_; rintro e w5 ⟨rfl, sm5⟩)
  have o5 := o4.same sm5
  clear o4 sm5 HSz c0 x40 x41 x42 x107 x173
  have kx := o5.blk (g := gx) (cs := txL) (by simp)
  go_upto_region 8 with (first | (refine wpList_load_mid rfl 33 _ rfl gx 20 rfl (cellsL (adr 1)) _ (tx_to kx) Safg.under33 rfl Safg.size33 ?_) | (refine wpList_alloc_arr rfl 33 rfl 20 Safg.zero33 ?_; intro w6 g11 hg11 o11 b6) | (refine wpList_store_arr rfl 33 (.tmp 11) _ rfl g11 rfl (List.replicate 20 0) (adr 1) rfl o11 rfl Safg.size33 ?_; intro w7 o11' n7))
  have o7 := o5.add (b6.trans (n7.below hg11)) hg11 o11'.blk
  clear o5 b6 n7 o11 o11' kx
  obtain ⟨c0, x40, x41, x42, x107, x173⟩ := ocells o7 (gx := gx) (by simp)
  go_upto_region 12 with (first | (refine wpList_build0_arr rfl 33 rfl 20 5 Safg.under33 rfl Safg.zero33 ?_) | (refine wpList_store_os o7 rfl 33 _ _ rfl 2415 (cellsL (List.replicate 20 0)) rfl rfl (by rw [cellsL_length, List.length_replicate]; omega) (by omega) Safg.size33 (cellsL_one _) ?_; intro w8 o8; have x40 := (o8.blk (g := gx) (cs := txL) (by simp)).get (j := 40) (v := .bool false) rfl))
  clear o7 c0 x41 x42 x107 x173
  have fa : updL f 2415 (cellsL (List.replicate 20 0)) 2406 = .int .u8 0 := by rw [updL_out _ _ (by omega)]; exact hf.applied
  generalize updL f 2415 (cellsL (List.replicate 20 0)) = f8 at *
  have a13 := o8.m.cell 2413 (by omega)
  have y13 := o8.m.free 2413
  have o9 := o8.set (k := 2413) (by omega) (by omega) (.int .i32 2)
  have a14 := o9.m.cell 2414 (by omega)
  have y14 := o9.m.free 2414
  have o10 := o9.set (k := 2414) (by omega) (by omega) (.int .i32 0)
  have a06 := o10.m.cell 2406 (by omega)
  rw [upd_ne _ _ (by omega), upd_ne _ _ (by omega), fa] at a06
  have y06 := o10.m.free 2406
  have o11 := o10.set (k := 2406) (by omega) (by omega) (.int .u8 1)
  have a07 := o11.m.cell 2407 (by omega)
  have y07 := o11.m.free 2407
  have z42 := (o11.blk (g := gx) (cs := txL) (by simp)).get (j := 42) (v := .int .u64 200000) rfl
  have o12 := o11.set (k := 2407) (by omega) (by omega) (.int .u64 200000)
  obtain ⟨u13, hu13⟩ : ∃ u, f8 2413 = u := ⟨_, rfl⟩
  obtain ⟨u14, hu14⟩ : ∃ u, upd f8 2413 (.int .i32 2) 2414 = u := ⟨_, rfl⟩
  obtain ⟨u07, hu07⟩ : ∃ u, upd (upd (upd f8 2413 (.int .i32 2)) 2414 (.int .i32 0)) 2406 (.int .u8 1) 2407 = u := ⟨_, rfl⟩
  rw [hu13] at a13
  rw [hu14] at a14
  rw [hu07] at a07
  clear o8 o9 o10 o11 hu13 hu14 hu07 fa
  go_upto_region 16 with fail
  clear a13 a14 a06 a07 y13 y14 y06 y07 z42
  generalize (((w8.setCell ⟨gm, 2413, none⟩ (.int .i32 2)).setCell ⟨gm, 2414, none⟩ (.int .i32 0)).setCell ⟨gm, 2406, none⟩ (.int .u8 1)).setCell ⟨gm, 2407, none⟩ (.int .u64 200000) = w12 at *
  generalize upd (upd (upd (upd f8 2413 (.int .i32 2)) 2414 (.int .i32 0)) 2406 (.int .u8 1)) 2407 (.int .u64 200000) = f12 at *
  refine wp_region_held_drew (S := fun w' => Blk w' gx txL) (by kernel_rfl) (o12.drew.blk (by simp)) (fun hHeld => ?_)
  refine wpAnyH_take' (i := 0) (d := 72) rfl rfl (by kernel_rfl) (by kernel_rfl) (by kernel_rfl) (fun _ _ _ h => h) (Or.inl ⟨by rfl, fun w hw => by go_simp; try rfl⟩) hHeld ?_
  try simp only [Act.put, List.setIfInBounds_toArray, List.set_cons_zero, List.set_cons_succ]
  refine wpAnyH_take' (i := 1) (d := 73) rfl rfl (by kernel_rfl) (by kernel_rfl) (by kernel_rfl) (fun _ _ _ h => h) (Or.inl ⟨by rfl, fun w hw => by go_simp; try rfl⟩) hHeld ?_
  try simp only [Act.put, List.setIfInBounds_toArray, List.set_cons_zero, List.set_cons_succ]
  refine wpAnyH_take' (i := 2) (d := 74) rfl rfl (by kernel_rfl) (by kernel_rfl) (by kernel_rfl) (fun _ _ _ h => h) (Or.inl ⟨by rfl, fun w hw => by have q42 := hw.get (j := 42) (v := .int .u64 200000) rfl; go_simp; try rfl⟩) hHeld ?_
  try simp only [Act.put, List.setIfInBounds_toArray, List.set_cons_zero, List.set_cons_succ]
  refine wpAnyH_take' (i := 3) (d := 75) rfl rfl (by kernel_rfl) (by kernel_rfl) (by kernel_rfl) (fun _ _ _ h => h) (yieldsIf_load_mid (by rfl) 58 _ rfl gx 0 rfl txL _ (fun w hw => hw.cell) u58 rfl Safg.size58) hHeld ?_
  try simp only [Act.put, List.setIfInBounds_toArray, List.set_cons_zero, List.set_cons_succ]
  refine wpAnyH_one 4 (by kernel_rfl) rfl rfl ?_
  refine wp_callR Safg.func55 (by kernel_rfl) (by kernel_rfl) (intrinsic_tx w12.drew) rfl rfl ?_
  rintro e w13 ⟨rfl, b13⟩
  have o13 := o12.drew.below b13
  have k13 := o13.blk (g := gx) (cs := txL) (by simp)
  refine ⟨_, rfl, k13, ?_⟩
  try simp only [Act.put, List.setIfInBounds_toArray, List.set_cons_zero, List.set_cons_succ]
  refine wpAnyH_take' (i := 5) (d := 77) (v := .int .u64 179000) rfl rfl (by kernel_rfl) (by kernel_rfl) (by kernel_rfl) (fun _ _ _ h => h) (Or.inl ⟨by rfl, fun w hw => by go_simp; try rfl⟩) k13 ?_
  try simp only [Act.put, List.setIfInBounds_toArray, List.set_cons_zero, List.set_cons_succ]
  refine wpAnyH_take' (i := 6) (d := 78) rfl rfl (by kernel_rfl) (by kernel_rfl) (by kernel_rfl) (fun _ _ _ h => h) (Or.inl ⟨by rfl, fun w hw => by go_simp; try rfl⟩) k13 ?_
  try simp only [Act.put, List.setIfInBounds_toArray, List.set_cons_zero, List.set_cons_succ]
  refine wpAnyH_take' (i := 7) (d := 79) rfl rfl (by kernel_rfl) (by kernel_rfl) (by kernel_rfl) (fun _ _ _ h => h) (Or.inl ⟨by rfl, fun w hw => by go_simp; try rfl⟩) k13 ?_
  try simp only [Act.put, List.setIfInBounds_toArray, List.set_cons_zero, List.set_cons_succ]
  have a08 := o13.m.cell 2408 (by omega)
  have y08 := o13.m.free 2408
  obtain ⟨u08, hu08⟩ : ∃ u, f12 2408 = u := ⟨_, rfl⟩
  rw [hu08] at a08
  have o14 := o13.set (k := 2408) (by omega) (by omega) (.int .u64 179000)
  have k14 := o14.blk (g := gx) (cs := txL) (by simp)
  clear hHeld o12 b13
  refine wpAnyH_oneK 8 (by kernel_rfl) rfl rfl ?_
  intro K hK
  go_simp
  refine hK.out _ _ k14 ?_
  clear hK K
  try simp only [Act.put, List.setIfInBounds_toArray, List.set_cons_zero, List.set_cons_succ]
  refine wpAnyH_done (by kernel_rfl) ?_ _
  have hT : upd f12 2408 (.int .u64 179000) 2408 = .int .u64 179000 := upd_same _ _ _
  clear o13 k13 k14 a08 y08 hu08
  generalize upd f12 2408 (.int .u64 179000) = f14 at *
  generalize w13.setCell ⟨gm, 2408, none⟩ (.int .u64 179000) = w14 at *
  obtain ⟨c0, x40, x41, x42, x107, x173⟩ := ocells o14 (gx := gx) (by simp)
  have k6 := o14.blk (g := g6) (cs := Wd4.zero.cells) (by simp)
  go_upto_region 18 with (first | (refine wpList_build_at rfl 65 _ rfl [(0, .int .u64 ((200000 : Nat) : Int))] rfl (Wd4.cells ⟨200000, 0, 0, 0⟩) (built65 200000) ?_) | (refine wpList_load_mid rfl 65 (.tmp 6) rfl g6 0 rfl _ _ k6.cell Safg.under65 rfl Safg.size65 ?_) | (go_at_call 56; refine (mulW_x0 _ ⟨200000, 0, 0, 0⟩ gas_ok).mono ?_; rintro e w15 ⟨rfl, b15⟩; have o15 := o14.below b15) | (refine wpList_store_os o15 rfl 65 _ _ rfl 2409 Wd4.zero.cells rfl rfl (by show 2409 + 4 ≤ 2435; omega) (by omega) Safg.size65 (Wd4.one _) ?_; intro w16 o16))
  have k6 := o16.blk (g := g6) (cs := Wd4.zero.cells) (by simp)
  clear o14 o15 b15 c0 x40 x41 x42 x107 x173
  go_upto_region 19 with (first | (refine wpList_load_mid rfl 65 (.tmp 6) rfl g6 0 rfl _ _ k6.cell Safg.under65 rfl Safg.size65 ?_) | (refine wpList_store_os o16 rfl 65 _ _ rfl 2400 Wd4.zero.cells rfl rfl (by show 2400 + 4 ≤ 2435; omega) (by omega) Safg.size65 (Wd4.one _) ?_; intro w17 o17))
  clear o16 k6
  have kx := o17.blk (g := gx) (cs := txL) (by simp)
  go_upto_region 20 with (first | (refine wpList_load_mid rfl 33 _ rfl gx 0 rfl (cellsL (adr 240)) _ (tx_from kx) Safg.under33 rfl Safg.size33 ?_) | (refine wpList_store_os o17 rfl 33 _ _ rfl 2380 (cellsL (adr 240)) rfl rfl (by rw [cellsL_length]; show 2380 + 20 ≤ 2435; omega) (by omega) Safg.size33 (cellsL_one _) ?_; intro w18 o18))
  clear o17 kx
  have hT : updL (updL (updL f14 2409 Wd4.zero.cells) 2400 Wd4.zero.cells) 2380 (cellsL (adr 240)) 2408 = .int .u64 179000 := by
    rw [updL_out _ _ (by rw [cellsL_length]; show 2408 < 2380 ∨ 2380 + 20 ≤ 2408; omega), updL_out _ _ (by show 2408 < 2400 ∨ 2400 + 4 ≤ 2408; omega), updL_out _ _ (by show 2408 < 2409 ∨ 2409 + 4 ≤ 2408; omega), hT]
  have hH : ∀ i v, Wd4.zero.cells[i]? = some v → updL (updL (updL f14 2409 Wd4.zero.cells) 2400 Wd4.zero.cells) 2380 (cellsL (adr 240)) (2409 + i) = v := fun i v hv => by
    rw [updL_out _ _ (by rw [cellsL_length]; show 2409 + i < 2380 ∨ 2380 + 20 ≤ 2409 + i; omega), updL_out _ _ (by show 2409 + i < 2400 ∨ 2400 + 4 ≤ 2409 + i; omega), updL_in _ _ hv]
  generalize updL (updL (updL f14 2409 Wd4.zero.cells) 2400 Wd4.zero.cells) 2380 (cellsL (adr 240)) = f18 at *
  have r18 := o18.m.cell 2259 (by omega)
  rw [o18.o.ret] at r18
  have y18 := o18.m.free 2259
  have e18 : w18.setCell ⟨gm, 2259, none⟩ (.slice none 0 0) = w18 := setCell_self r18
  go_upto_region 21 with fail
  try rw [e18]
  clear r18 y18 e18
  refine wp_region_held_drew (S := fun w' => ∃ s', OS B w0 w' gm gv f18 s' ((g11, cellsL (adr 1)) :: (g6, Wd4.zero.cells) :: (gx, txL) :: (gK, cellsL C) :: ks)) (by kernel_rfl) ⟨s, o18.drew⟩ (fun hHeld => ?_)
  refine wpAnyH_take' (i := 0) (d := 100) rfl rfl (by kernel_rfl) (by kernel_rfl) (by kernel_rfl) (fun _ _ _ h => h) (Or.inl ⟨by rfl, fun w hw => by go_simp; try rfl⟩) hHeld ?_
  try simp only [Act.put, List.setIfInBounds_toArray, List.set_cons_zero, List.set_cons_succ]
  refine wpAnyH_take' (i := 1) (d := 101) rfl rfl (by kernel_rfl) (by kernel_rfl) (by kernel_rfl) (fun _ _ _ h => h) (Or.inl ⟨by rfl, fun w hw => by go_simp; try rfl⟩) hHeld ?_
  try simp only [Act.put, List.setIfInBounds_toArray, List.set_cons_zero, List.set_cons_succ]
  refine wpAnyH_take' (i := 2) (d := 102) rfl rfl (by kernel_rfl) (by kernel_rfl) (by kernel_rfl) (fun _ _ _ h => h) (Or.inl ⟨by rfl, fun w hw => by go_simp; try rfl⟩) hHeld ?_
  try simp only [Act.put, List.setIfInBounds_toArray, List.set_cons_zero, List.set_cons_succ]
  refine wpAnyH_take' (i := 3) (d := 103) rfl rfl (by kernel_rfl) (by kernel_rfl) (by kernel_rfl) (fun _ _ _ h => h) (Or.inl ⟨by rfl, fun w hw => by obtain ⟨s', hw⟩ := hw; obtain ⟨c0, x40, x41, x42, x107, x173⟩ := ocells hw (gx := gx) (by simp); have cT := hw.m.cell 2408 (by omega); rw [hT] at cT; go_simp; try rfl⟩) hHeld ?_
  try simp only [Act.put, List.setIfInBounds_toArray, List.set_cons_zero, List.set_cons_succ]
  refine wpAnyH_take' (i := 4) (d := 104) rfl rfl (by kernel_rfl) (by kernel_rfl) (by kernel_rfl) (fun _ _ _ h => h) (Or.inl ⟨by rfl, fun w hw => by go_simp; try rfl⟩) hHeld ?_
  try simp only [Act.put, List.setIfInBounds_toArray, List.set_cons_zero, List.set_cons_succ]
  refine wpAnyH_take' (i := 5) (d := 105) rfl rfl (by kernel_rfl) (by kernel_rfl) (by kernel_rfl) (fun _ _ _ h => h) (yieldsIf_load_mid (by rfl) 33 _ rfl gx 0 rfl (cellsL (adr 240)) _ (fun w hw => by obtain ⟨s', hw⟩ := hw; exact tx_from (hw.blk (by simp))) Safg.under33 rfl Safg.size33) hHeld ?_
  try simp only [Act.put, List.setIfInBounds_toArray, List.set_cons_zero, List.set_cons_succ]
  refine wpAnyH_take' (i := 6) (d := 106) rfl rfl (by kernel_rfl) (by kernel_rfl) (by kernel_rfl) (fun _ _ _ h => h) (Or.inl ⟨by rfl, fun w hw => by go_simp; try rfl⟩) hHeld ?_
  try simp only [Act.put, List.setIfInBounds_toArray, List.set_cons_zero, List.set_cons_succ]
  refine wpAnyH_take' (i := 7) (d := 107) rfl rfl (by kernel_rfl) (by kernel_rfl) (by kernel_rfl) (fun _ _ _ h => h) (Or.inl ⟨by rfl, fun w hw => by obtain ⟨s', hw⟩ := hw; obtain ⟨c0, x40, x41, x42, x107, x173⟩ := ocells hw (gx := gx) (by simp); have cT := hw.m.cell 2408 (by omega); rw [hT] at cT; go_simp; try rfl⟩) hHeld ?_
  try simp only [Act.put, List.setIfInBounds_toArray, List.set_cons_zero, List.set_cons_succ]
  refine wpAnyH_take' (i := 8) (d := 108) (v := .int .u64 1) rfl rfl (by kernel_rfl) (by kernel_rfl) (by kernel_rfl) (fun _ _ _ h => h) (Or.inl ⟨by rfl, fun w hw => by go_simp; try rfl⟩) hHeld ?_
  try simp only [Act.put, List.setIfInBounds_toArray, List.set_cons_zero, List.set_cons_succ]
  refine wpAnyH_one 9 (by kernel_rfl) rfl rfl ?_
  refine wp_callR Safg.func57 (by kernel_rfl) (by kernel_rfl) (oNonce o18.drew v (by omega) (A := adr 240) rfl (adr_dig (by omega)) (i := 1) (x := x1) rfl a1 (by simp [putTab, tb0, home_1, home_240, home_192, home_4, home_5]) 1 (by omega)) rfl rfl ?_
  rintro e w19 ⟨rfl, s19, o19, v19⟩
  refine ⟨_, rfl, ⟨_, o19⟩, ?_⟩
  try simp only [Act.put, List.setIfInBounds_toArray, List.set_cons_zero, List.set_cons_succ]
  refine wpAnyH_done (by kernel_rfl) ?_ _
  clear hHeld o18 v
  go_upto_region 22 with fail
  refine wp_region_held_drew (S := fun w' => ∃ s', OS B w0 w' gm gv f18 s' ((g11, cellsL (adr 1)) :: (g6, Wd4.zero.cells) :: (gx, txL) :: (gK, cellsL C) :: ks)) (by kernel_rfl) ⟨s19, o19.drew⟩ (fun hHeld => ?_)
  refine wpAnyH_take' (i := 0) (d := 110) rfl rfl (by kernel_rfl) (by kernel_rfl) (by kernel_rfl) (fun _ _ _ h => h) (Or.inl ⟨by rfl, fun w hw => by go_simp; try rfl⟩) hHeld ?_
  try simp only [Act.put, List.setIfInBounds_toArray, List.set_cons_zero, List.set_cons_succ]
  refine wpAnyH_take' (i := 1) (d := 111) rfl rfl (by kernel_rfl) (by kernel_rfl) (by kernel_rfl) (fun _ _ _ h => h) (Or.inl ⟨by rfl, fun w hw => by go_simp; try rfl⟩) hHeld ?_
  try simp only [Act.put, List.setIfInBounds_toArray, List.set_cons_zero, List.set_cons_succ]
  refine wpAnyH_take' (i := 2) (d := 112) rfl rfl (by kernel_rfl) (by kernel_rfl) (by kernel_rfl) (fun _ _ _ h => h) (Or.inl ⟨by rfl, fun w hw => by go_simp; try rfl⟩) hHeld ?_
  try simp only [Act.put, List.setIfInBounds_toArray, List.set_cons_zero, List.set_cons_succ]
  refine wpAnyH_take' (i := 3) (d := 113) rfl rfl (by kernel_rfl) (by kernel_rfl) (by kernel_rfl) (fun _ _ _ h => h) (Or.inl ⟨by rfl, fun w hw => by obtain ⟨s', hw⟩ := hw; obtain ⟨c0, x40, x41, x42, x107, x173⟩ := ocells hw (gx := gx) (by simp); have cT := hw.m.cell 2408 (by omega); rw [hT] at cT; go_simp; try rfl⟩) hHeld ?_
  try simp only [Act.put, List.setIfInBounds_toArray, List.set_cons_zero, List.set_cons_succ]
  refine wpAnyH_take' (i := 4) (d := 114) rfl rfl (by kernel_rfl) (by kernel_rfl) (by kernel_rfl) (fun _ _ _ h => h) (Or.inl ⟨by rfl, fun w hw => by go_simp; try rfl⟩) hHeld ?_
  try simp only [Act.put, List.setIfInBounds_toArray, List.set_cons_zero, List.set_cons_succ]
  refine wpAnyH_take' (i := 5) (d := 115) rfl rfl (by kernel_rfl) (by kernel_rfl) (by kernel_rfl) (fun _ _ _ h => h) (yieldsIf_load_mid (by rfl) 33 _ rfl gx 0 rfl (cellsL (adr 240)) _ (fun w hw => by obtain ⟨s', hw⟩ := hw; exact tx_from (hw.blk (by simp))) Safg.under33 rfl Safg.size33) hHeld ?_
  try simp only [Act.put, List.setIfInBounds_toArray, List.set_cons_zero, List.set_cons_succ]
  refine wpAnyH_take' (i := 6) (d := 116) rfl rfl (by kernel_rfl) (by kernel_rfl) (by kernel_rfl) (fun _ _ _ h => h) (Or.inl ⟨by rfl, fun w hw => by go_simp; try rfl⟩) hHeld ?_
  try simp only [Act.put, List.setIfInBounds_toArray, List.set_cons_zero, List.set_cons_succ]
  refine wpAnyH_take' (i := 7) (d := 117) rfl rfl (by kernel_rfl) (by kernel_rfl) (by kernel_rfl) (fun _ _ _ h => h) (Or.inl ⟨by rfl, fun w hw => by go_simp; try rfl⟩) hHeld ?_
  try simp only [Act.put, List.setIfInBounds_toArray, List.set_cons_zero, List.set_cons_succ]
  refine wpAnyH_take' (i := 8) (d := 118) rfl rfl (by kernel_rfl) (by kernel_rfl) (by kernel_rfl) (fun _ _ _ h => h) (Or.inl ⟨by rfl, fun w hw => by go_simp; try rfl⟩) hHeld ?_
  try simp only [Act.put, List.setIfInBounds_toArray, List.set_cons_zero, List.set_cons_succ]
  refine wpAnyH_take' (i := 9) (d := 119) rfl rfl (by kernel_rfl) (by kernel_rfl) (by kernel_rfl) (fun _ _ _ h => h) (Or.inl ⟨by rfl, fun w hw => by obtain ⟨s', hw⟩ := hw; obtain ⟨c0, x40, x41, x42, x107, x173⟩ := ocells hw (gx := gx) (by simp); have cT := hw.m.cell 2408 (by omega); rw [hT] at cT; go_simp; try rfl⟩) hHeld ?_
  try simp only [Act.put, List.setIfInBounds_toArray, List.set_cons_zero, List.set_cons_succ]
  refine wpAnyH_take' (i := 10) (d := 120) rfl rfl (by kernel_rfl) (by kernel_rfl) (by kernel_rfl) (fun _ _ _ h => h) (Or.inl ⟨by rfl, fun w hw => by go_simp; try rfl⟩) hHeld ?_
  try simp only [Act.put, List.setIfInBounds_toArray, List.set_cons_zero, List.set_cons_succ]
  refine wpAnyH_take' (i := 11) (d := 121) rfl rfl (by kernel_rfl) (by kernel_rfl) (by kernel_rfl) (fun _ _ _ h => h) (yieldsIf_load_mid (by rfl) 33 _ rfl gx 0 rfl (cellsL (adr 240)) _ (fun w hw => by obtain ⟨s', hw⟩ := hw; exact tx_from (hw.blk (by simp))) Safg.under33 rfl Safg.size33) hHeld ?_
  try simp only [Act.put, List.setIfInBounds_toArray, List.set_cons_zero, List.set_cons_succ]
  refine wpAnyH_take' (i := 13) (d := 123) rfl rfl (by kernel_rfl) (by kernel_rfl) (by kernel_rfl) (fun _ _ _ h => h) (Or.inl ⟨by rfl, fun w hw => by go_simp; try rfl⟩) hHeld ?_
  try simp only [Act.put, List.setIfInBounds_toArray, List.set_cons_zero, List.set_cons_succ]
  refine wpAnyH_take' (i := 14) (d := 124) rfl rfl (by kernel_rfl) (by kernel_rfl) (by kernel_rfl) (fun _ _ _ h => h) (Or.inl ⟨by rfl, fun w hw => by go_simp; try rfl⟩) hHeld ?_
  try simp only [Act.put, List.setIfInBounds_toArray, List.set_cons_zero, List.set_cons_succ]
  refine wpAnyH_take' (i := 15) (d := 125) rfl rfl (by kernel_rfl) (by kernel_rfl) (by kernel_rfl) (fun _ _ _ h => h) (Or.inl ⟨by rfl, fun w hw => by go_simp; try rfl⟩) hHeld ?_
  try simp only [Act.put, List.setIfInBounds_toArray, List.set_cons_zero, List.set_cons_succ]
  refine wpAnyH_take' (i := 16) (d := 126) rfl rfl (by kernel_rfl) (by kernel_rfl) (by kernel_rfl) (fun _ _ _ h => h) (yieldsIf_load_mid (by rfl) 65 _ rfl gm 2409 rfl Wd4.zero.cells _ (fun w hw => by obtain ⟨s', hw⟩ := hw; exact hw.m.range (by show 2409 + 4 ≤ 2435; omega) hH) Safg.under65 rfl Safg.size65) hHeld ?_
  try simp only [Act.put, List.setIfInBounds_toArray, List.set_cons_zero, List.set_cons_succ]
  have o19d := o19.drew
  have ok1 : x1.bal.Ok := (o19d.v.ok { x1 with nonce := 1 } (by rw [v19.a]; simp)).bal
  refine wpAnyH_one 12 (by kernel_rfl) rfl rfl ?_
  refine wp_callR Safg.func60 (by kernel_rfl) (by kernel_rfl) (oGet o19d v19 (A := adr 240) rfl (adr_dig (by omega)) (i := 1) (x := { x1 with nonce := 1 }) rfl a1 (by simp [putTab, tb0, home_1, home_240, home_192, home_4, home_5])) rfl rfl ?_
  rintro e w20 ⟨rfl, b20⟩
  have o20 := o19d.below b20
  refine ⟨_, rfl, ⟨_, o20⟩, ?_⟩
  try simp only [Act.put, List.setIfInBounds_toArray, List.set_cons_zero, List.set_cons_succ]
  refine wpAnyH_one 17 (by kernel_rfl) rfl rfl ?_
  refine wp_callR Safg.func59 (by kernel_rfl) (by kernel_rfl) (uSub_any w20 x1.bal Wd4.zero ok1 zero_ok) rfl rfl ?_
  rintro e w21 ⟨bal, balok, hbal, rfl, b21⟩
  have o21 := o20.below b21
  refine ⟨_, rfl, ⟨_, o21⟩, ?_⟩
  try simp only [Act.put, List.setIfInBounds_toArray, List.set_cons_zero, List.set_cons_succ]
  refine wpAnyH_one 18 (by kernel_rfl) rfl rfl ?_
  refine wp_callR Safg.func58 (by kernel_rfl) (by kernel_rfl) (oBal o21 v19 (by omega) (A := adr 240) rfl (adr_dig (by omega)) (i := 1) (x := { x1 with nonce := 1 }) rfl a1 (by simp [putTab, tb0, home_1, home_240, home_192, home_4, home_5]) bal balok) rfl rfl ?_
  rintro e w22 ⟨rfl, s22, o22, v22⟩
  refine ⟨_, rfl, ⟨_, o22⟩, ?_⟩
  try simp only [Act.put, List.setIfInBounds_toArray, List.set_cons_zero, List.set_cons_succ]
  refine wpAnyH_done (by kernel_rfl) ?_ _
  clear hHeld o19 o19d o20 o21 b20 b21 v19 ok1 hbal
  have v22 : VAt s22 [x0, { x1 with nonce := 1, bal := bal }] tb0 2 := v22
  go_upto_region 23 with fail
  refine wp_region_held_drew (S := fun w' => ∃ s', OS B w0 w' gm gv f18 s' ((g11, cellsL (adr 1)) :: (g6, Wd4.zero.cells) :: (gx, txL) :: (gK, cellsL C) :: ks)) (by kernel_rfl) ⟨s22, o22.drew⟩ (fun hHeld => ?_)
  refine wpAnyH_take' (i := 0) (d := 129) rfl rfl (by kernel_rfl) (by kernel_rfl) (by kernel_rfl) (fun _ _ _ h => h) (Or.inl ⟨by rfl, fun w hw => by go_simp; try rfl⟩) hHeld ?_
  try simp only [Act.put, List.setIfInBounds_toArray, List.set_cons_zero, List.set_cons_succ]
  refine wpAnyH_take' (i := 1) (d := 130) rfl rfl (by kernel_rfl) (by kernel_rfl) (by kernel_rfl) (fun _ _ _ h => h) (Or.inl ⟨by rfl, fun w hw => by go_simp; try rfl⟩) hHeld ?_
  try simp only [Act.put, List.setIfInBounds_toArray, List.set_cons_zero, List.set_cons_succ]
  refine wpAnyH_take' (i := 2) (d := 131) rfl rfl (by kernel_rfl) (by kernel_rfl) (by kernel_rfl) (fun _ _ _ h => h) (Or.inl ⟨by rfl, fun w hw => by go_simp; try rfl⟩) hHeld ?_
  try simp only [Act.put, List.setIfInBounds_toArray, List.set_cons_zero, List.set_cons_succ]
  refine wpAnyH_take' (i := 3) (d := 132) rfl rfl (by kernel_rfl) (by kernel_rfl) (by kernel_rfl) (fun _ _ _ h => h) (Or.inl ⟨by rfl, fun w hw => by obtain ⟨s', hw⟩ := hw; obtain ⟨c0, x40, x41, x42, x107, x173⟩ := ocells hw (gx := gx) (by simp); have cT := hw.m.cell 2408 (by omega); rw [hT] at cT; go_simp; try rfl⟩) hHeld ?_
  try simp only [Act.put, List.setIfInBounds_toArray, List.set_cons_zero, List.set_cons_succ]
  refine wpAnyH_take' (i := 4) (d := 133) rfl rfl (by kernel_rfl) (by kernel_rfl) (by kernel_rfl) (fun _ _ _ h => h) (Or.inl ⟨by rfl, fun w hw => by go_simp; try rfl⟩) hHeld ?_
  try simp only [Act.put, List.setIfInBounds_toArray, List.set_cons_zero, List.set_cons_succ]
  refine wpAnyH_take' (i := 5) (d := 134) rfl rfl (by kernel_rfl) (by kernel_rfl) (by kernel_rfl) (fun _ _ _ h => h) (yieldsIf_load_mid (by rfl) 33 _ rfl gx 0 rfl (cellsL (adr 240)) _ (fun w hw => by obtain ⟨s', hw⟩ := hw; exact tx_from (hw.blk (by simp))) Safg.under33 rfl Safg.size33) hHeld ?_
  try simp only [Act.put, List.setIfInBounds_toArray, List.set_cons_zero, List.set_cons_succ]
  refine wpAnyH_one 6 (by kernel_rfl) rfl rfl ?_
  refine wp_callR Safg.func61 (by kernel_rfl) (by kernel_rfl) (oWarm o22.drew v22 (by omega) (A := adr 240) rfl (adr_dig (by omega)) (i := 1) (x := { x1 with nonce := 1, bal := bal }) rfl a1 (by simp [putTab, tb0, home_1, home_240, home_192, home_4, home_5]) m1) rfl rfl ?_
  rintro e w23 ⟨rfl, s23, o23, v23⟩
  refine ⟨_, rfl, ⟨_, o23⟩, ?_⟩
  try simp only [Act.put, List.setIfInBounds_toArray, List.set_cons_zero, List.set_cons_succ]
  refine wpAnyH_done (by kernel_rfl) ?_ _
  clear hHeld o22 v22
  have v23 : VAt s23 [x0, { x1 with nonce := 1, bal := bal, warm := true }] tb0 3 := v23
  obtain ⟨y1, hy1⟩ : ∃ y, ({ x1 with nonce := 1, bal := bal, warm := true } : Ac) = y := ⟨_, rfl⟩
  rw [hy1] at v23
  clear hy1
  go_upto_region 24 with fail
  refine wp_region_held_drew (S := fun w' => ∃ s', OS B w0 w' gm gv f18 s' ((g11, cellsL (adr 1)) :: (g6, Wd4.zero.cells) :: (gx, txL) :: (gK, cellsL C) :: ks)) (by kernel_rfl) ⟨s23, o23.drew⟩ (fun hHeld => ?_)
  refine wpAnyH_take' (i := 0) (d := 136) rfl rfl (by kernel_rfl) (by kernel_rfl) (by kernel_rfl) (fun _ _ _ h => h) (Or.inl ⟨by rfl, fun w hw => by go_simp; try rfl⟩) hHeld ?_
  try simp only [Act.put, List.setIfInBounds_toArray, List.set_cons_zero, List.set_cons_succ]
  refine wpAnyH_take' (i := 1) (d := 137) rfl rfl (by kernel_rfl) (by kernel_rfl) (by kernel_rfl) (fun _ _ _ h => h) (Or.inl ⟨by rfl, fun w hw => by go_simp; try rfl⟩) hHeld ?_
  try simp only [Act.put, List.setIfInBounds_toArray, List.set_cons_zero, List.set_cons_succ]
  refine wpAnyH_take' (i := 2) (d := 138) rfl rfl (by kernel_rfl) (by kernel_rfl) (by kernel_rfl) (fun _ _ _ h => h) (Or.inl ⟨by rfl, fun w hw => by go_simp; try rfl⟩) hHeld ?_
  try simp only [Act.put, List.setIfInBounds_toArray, List.set_cons_zero, List.set_cons_succ]
  refine wpAnyH_take' (i := 3) (d := 139) rfl rfl (by kernel_rfl) (by kernel_rfl) (by kernel_rfl) (fun _ _ _ h => h) (Or.inl ⟨by rfl, fun w hw => by obtain ⟨s', hw⟩ := hw; obtain ⟨c0, x40, x41, x42, x107, x173⟩ := ocells hw (gx := gx) (by simp); have cT := hw.m.cell 2408 (by omega); rw [hT] at cT; go_simp; try rfl⟩) hHeld ?_
  try simp only [Act.put, List.setIfInBounds_toArray, List.set_cons_zero, List.set_cons_succ]
  refine wpAnyH_take' (i := 4) (d := 140) rfl rfl (by kernel_rfl) (by kernel_rfl) (by kernel_rfl) (fun _ _ _ h => h) (Or.inl ⟨by rfl, fun w hw => by go_simp; try rfl⟩) hHeld ?_
  try simp only [Act.put, List.setIfInBounds_toArray, List.set_cons_zero, List.set_cons_succ]
  refine wpAnyH_take' (i := 5) (d := 141) rfl rfl (by kernel_rfl) (by kernel_rfl) (by kernel_rfl) (fun _ _ _ h => h) (Or.inl ⟨by rfl, fun w hw => by go_simp; try rfl⟩) hHeld ?_
  try simp only [Act.put, List.setIfInBounds_toArray, List.set_cons_zero, List.set_cons_succ]
  refine wpAnyH_take' (i := 6) (d := 142) rfl rfl (by kernel_rfl) (by kernel_rfl) (by kernel_rfl) (fun _ _ _ h => h) (Or.inl ⟨by rfl, fun w hw => by go_simp; try rfl⟩) hHeld ?_
  try simp only [Act.put, List.setIfInBounds_toArray, List.set_cons_zero, List.set_cons_succ]
  refine wpAnyH_take' (i := 7) (d := 143) rfl rfl (by kernel_rfl) (by kernel_rfl) (by kernel_rfl) (fun _ _ _ h => h) (Or.inl ⟨by rfl, fun w hw => by go_simp; try rfl⟩) hHeld ?_
  try simp only [Act.put, List.setIfInBounds_toArray, List.set_cons_zero, List.set_cons_succ]
  refine wpAnyH_take' (i := 8) (d := 144) rfl rfl (by kernel_rfl) (by kernel_rfl) (by kernel_rfl) (fun _ _ _ h => h) (yieldsIf_load_mid (by rfl) 33 _ rfl gm 2260 rfl (cellsL (adr 192)) _ (fun w hw => by obtain ⟨s', hw⟩ := hw; exact hw.m.range (by rw [cellsL_length]; show 2260 + 20 ≤ 2435; omega) hw.o.coin) Safg.under33 rfl Safg.size33) hHeld ?_
  try simp only [Act.put, List.setIfInBounds_toArray, List.set_cons_zero, List.set_cons_succ]
  refine wpAnyH_one 9 (by kernel_rfl) rfl rfl ?_
  refine wp_callR Safg.func61 (by kernel_rfl) (by kernel_rfl) (oWarmNew o23.drew v23 (by omega) (A := adr 192) rfl (adr_dig (by omega)) (by simp [putTab, tb0, home_1, home_240, home_192, home_4, home_5]) (by simp)) rfl rfl ?_
  rintro e w24 ⟨rfl, s24, o24, v24⟩
  refine ⟨_, rfl, ⟨_, o24⟩, ?_⟩
  try simp only [Act.put, List.setIfInBounds_toArray, List.set_cons_zero, List.set_cons_succ]
  refine wpAnyH_done (by kernel_rfl) ?_ _
  clear hHeld o23 v23
  have v24 : VAt s24 [x0, y1, { newAc (adr 192) with warm := true }] (putTab tb0 (homeN (adr 192)) 2) 4 := v24
  obtain ⟨y2, hy2⟩ : ∃ y, ({ newAc (adr 192) with warm := true } : Ac) = y := ⟨_, rfl⟩
  rw [hy2] at v24
  clear hy2
  go_upto_region 25 with fail
  refine wp_region_held_drew (S := fun w' => ∃ s', OS B w0 w' gm gv f18 s' ((g11, cellsL (adr 1)) :: (g6, Wd4.zero.cells) :: (gx, txL) :: (gK, cellsL C) :: ks)) (by kernel_rfl) ⟨s24, o24.drew⟩ (fun hHeld => ?_)
  refine wpAnyH_take' (i := 0) (d := 146) rfl rfl (by kernel_rfl) (by kernel_rfl) (by kernel_rfl) (fun _ _ _ h => h) (Or.inl ⟨by rfl, fun w hw => by go_simp; try rfl⟩) hHeld ?_
  try simp only [Act.put, List.setIfInBounds_toArray, List.set_cons_zero, List.set_cons_succ]
  refine wpAnyH_take' (i := 1) (d := 147) rfl rfl (by kernel_rfl) (by kernel_rfl) (by kernel_rfl) (fun _ _ _ h => h) (Or.inl ⟨by rfl, fun w hw => by go_simp; try rfl⟩) hHeld ?_
  try simp only [Act.put, List.setIfInBounds_toArray, List.set_cons_zero, List.set_cons_succ]
  refine wpAnyH_take' (i := 2) (d := 148) rfl rfl (by kernel_rfl) (by kernel_rfl) (by kernel_rfl) (fun _ _ _ h => h) (Or.inl ⟨by rfl, fun w hw => by go_simp; try rfl⟩) hHeld ?_
  try simp only [Act.put, List.setIfInBounds_toArray, List.set_cons_zero, List.set_cons_succ]
  refine wpAnyH_take' (i := 3) (d := 149) rfl rfl (by kernel_rfl) (by kernel_rfl) (by kernel_rfl) (fun _ _ _ h => h) (Or.inl ⟨by rfl, fun w hw => by obtain ⟨s', hw⟩ := hw; obtain ⟨c0, x40, x41, x42, x107, x173⟩ := ocells hw (gx := gx) (by simp); have cT := hw.m.cell 2408 (by omega); rw [hT] at cT; go_simp; try rfl⟩) hHeld ?_
  try simp only [Act.put, List.setIfInBounds_toArray, List.set_cons_zero, List.set_cons_succ]
  refine wpAnyH_take' (i := 4) (d := 150) rfl rfl (by kernel_rfl) (by kernel_rfl) (by kernel_rfl) (fun _ _ _ h => h) (yieldsIf_load_mid (by rfl) 33 _ rfl g11 0 rfl (cellsL (adr 1)) _ (fun w hw => by obtain ⟨s', hw⟩ := hw; exact (hw.blk (g := g11) (cs := cellsL (adr 1)) (by simp)).cell) Safg.under33 rfl Safg.size33) hHeld ?_
  try simp only [Act.put, List.setIfInBounds_toArray, List.set_cons_zero, List.set_cons_succ]
  refine wpAnyH_one 5 (by kernel_rfl) rfl rfl ?_
  refine wp_callR Safg.func61 (by kernel_rfl) (by kernel_rfl) (oWarm o24.drew v24 (by omega) (A := adr 1) rfl (adr_dig (by omega)) (i := 0) (x := x0) rfl a0 (by simp [putTab, tb0, home_1, home_240, home_192, home_4, home_5]) m0) rfl rfl ?_
  rintro e w25 ⟨rfl, s25, o25, v25⟩
  refine ⟨_, rfl, ⟨_, o25⟩, ?_⟩
  try simp only [Act.put, List.setIfInBounds_toArray, List.set_cons_zero, List.set_cons_succ]
  refine wpAnyH_done (by kernel_rfl) ?_ _
  clear hHeld o24 v24
  have v25 : VAt s25 [{ x0 with warm := true }, y1, y2] (putTab tb0 (homeN (adr 192)) 2) 5 := v25
  have c25 := o25.m.cell 0 (by omega)
  rw [o25.o.s] at c25
  go_upto_region 27 with (first | (refine wpList_build_at rfl 33 _ rfl [(19, .int .u8 ((4 : Nat) : Int))] rfl (cellsL (adr 4)) (built33 4) ?_) | (go_at_call 61; refine (oWarmNew o25 v25 (by omega) (A := adr 4) rfl (adr_dig (by omega)) (by simp [putTab, tb0, home_1, home_240, home_192, home_4, home_5]) (by simp)).mono ?_; rintro e w26 ⟨rfl, s26, o26, v26⟩))
  clear o25 v25 c25
  have v26 : VAt s26 [{ x0 with warm := true }, y1, y2, { newAc (adr 4) with warm := true }] (putTab (putTab tb0 (homeN (adr 192)) 2) (homeN (adr 4)) 3) 6 := v26
  obtain ⟨y3, hy3⟩ : ∃ y, ({ newAc (adr 4) with warm := true } : Ac) = y := ⟨_, rfl⟩
  rw [hy3] at v26
  clear hy3
  have c26 := o26.m.cell 0 (by omega)
  rw [o26.o.s] at c26
  go_upto_region 28 with (first | (refine wpList_build_at rfl 33 _ rfl [(19, .int .u8 ((5 : Nat) : Int))] rfl (cellsL (adr 5)) (built33 5) ?_) | (go_at_call 61; refine (oWarmNew o26 v26 (by omega) (A := adr 5) rfl (adr_dig (by omega)) (by simp [putTab, tb0, home_1, home_240, home_192, home_4, home_5]) (by simp)).mono ?_; rintro e w27 ⟨rfl, s27, o27, v27⟩))
  clear o26 v26 c26
  have v27 : VAt s27 [{ x0 with warm := true }, y1, y2, y3, { newAc (adr 5) with warm := true }] (putTab (putTab (putTab tb0 (homeN (adr 192)) 2) (homeN (adr 4)) 3) (homeN (adr 5)) 4) 7 := v27
  refine wp_region_held_drew (S := fun w' => ∃ s', OS B w0 w' gm gv f18 s' ((g11, cellsL (adr 1)) :: (g6, Wd4.zero.cells) :: (gx, txL) :: (gK, cellsL C) :: ks)) (by kernel_rfl) ⟨s27, o27.drew⟩ (fun hHeld => ?_)
  refine wpAnyH_take' (i := 0) (d := 164) rfl rfl (by kernel_rfl) (by kernel_rfl) (by kernel_rfl) (fun _ _ _ h => h) (Or.inl ⟨by rfl, fun w hw => by go_simp; try rfl⟩) hHeld ?_
  try simp only [Act.put, List.setIfInBounds_toArray, List.set_cons_zero, List.set_cons_succ]
  refine wpAnyH_take' (i := 1) (d := 165) rfl rfl (by kernel_rfl) (by kernel_rfl) (by kernel_rfl) (fun _ _ _ h => h) (Or.inl ⟨by rfl, fun w hw => by go_simp; try rfl⟩) hHeld ?_
  try simp only [Act.put, List.setIfInBounds_toArray, List.set_cons_zero, List.set_cons_succ]
  refine wpAnyH_take' (i := 2) (d := 166) rfl rfl (by kernel_rfl) (by kernel_rfl) (by kernel_rfl) (fun _ _ _ h => h) (Or.inl ⟨by rfl, fun w hw => by go_simp; try rfl⟩) hHeld ?_
  try simp only [Act.put, List.setIfInBounds_toArray, List.set_cons_zero, List.set_cons_succ]
  refine wpAnyH_take' (i := 3) (d := 167) rfl rfl (by kernel_rfl) (by kernel_rfl) (by kernel_rfl) (fun _ _ _ h => h) (Or.inl ⟨by rfl, fun w hw => by obtain ⟨s', hw⟩ := hw; obtain ⟨c0, x40, x41, x42, x107, x173⟩ := ocells hw (gx := gx) (by simp); have cT := hw.m.cell 2408 (by omega); rw [hT] at cT; go_simp; try rfl⟩) hHeld ?_
  try simp only [Act.put, List.setIfInBounds_toArray, List.set_cons_zero, List.set_cons_succ]
  refine wpAnyH_take' (i := 4) (d := 168) rfl rfl (by kernel_rfl) (by kernel_rfl) (by kernel_rfl) (fun _ _ _ h => h) (Or.inl ⟨by rfl, fun w hw => by go_simp; try rfl⟩) hHeld ?_
  try simp only [Act.put, List.setIfInBounds_toArray, List.set_cons_zero, List.set_cons_succ]
  refine wpAnyH_take' (i := 5) (d := 169) rfl rfl (by kernel_rfl) (by kernel_rfl) (by kernel_rfl) (fun _ _ _ h => h) (Or.inl ⟨by rfl, fun w hw => by obtain ⟨s', hw⟩ := hw; obtain ⟨c0, x40, x41, x42, x107, x173⟩ := ocells hw (gx := gx) (by simp); have cT := hw.m.cell 2408 (by omega); rw [hT] at cT; go_simp; try rfl⟩) hHeld ?_
  try simp only [Act.put, List.setIfInBounds_toArray, List.set_cons_zero, List.set_cons_succ]
  refine wpAnyH_one 6 (by kernel_rfl) rfl rfl ?_
  refine wp_callR Safg.func62 (by kernel_rfl) (by kernel_rfl) (warmList_nil w27.drew gv) rfl rfl ?_
  rintro e w28 ⟨rfl, rfl⟩
  refine ⟨_, rfl, hHeld, ?_⟩
  try simp only [Act.put, List.setIfInBounds_toArray, List.set_cons_zero, List.set_cons_succ]
  refine wpAnyH_done (by kernel_rfl) ?_ _
  have o28 := o27.drew
  clear hHeld o27
  generalize w27.drew = w28 at *
  go_upto_region 29 with fail
  have o29 := o28.drew
  have HX : ∀ p ∈ ((g11, cellsL (adr 1)) :: (g6, Wd4.zero.cells) :: (gx, txL) :: (gK, cellsL C) :: ks), p.1 < w28.drew.heap.size := fun p hp => (o29.ks p hp).1.lt
  refine wp_region_held_drew (S := fun w' => ∃ s', OS B w0 w' gm gv f18 s' ((g11, cellsL (adr 1)) :: (g6, Wd4.zero.cells) :: (gx, txL) :: (gK, cellsL C) :: ks)) (by kernel_rfl) ⟨s27, o28.drew⟩ (fun hHeld => ?_)
  clear o28 hHeld
  generalize w28.drew = w29 at *
  apply wpAnyH_to1 (F := fun g12 w' => OS B w0 w' gm gv f18 s27 ((g12, frL 179000 (.slice none 0 0)) :: ((g11, cellsL (adr 1)) :: (g6, Wd4.zero.cells) :: (gx, txL) :: (gK, cellsL C) :: ks)) ∧ (∀ p ∈ ((g11, cellsL (adr 1)) :: (g6, Wd4.zero.cells) :: (gx, txL) :: (gK, cellsL C) :: ks), p.1 ≠ g12) ∧ B ≤ g12)
  case h =>
    have hHeld : ∃ s', OS B w0 w29 gm gv f18 s' ((g11, cellsL (adr 1)) :: (g6, Wd4.zero.cells) :: (gx, txL) :: (gK, cellsL C) :: ks) := ⟨_, o29⟩
    refine wpAnyH_take' (i := 0) (d := 171) rfl rfl (by kernel_rfl) (by kernel_rfl) (by kernel_rfl) (fun _ _ _ h => h) (Or.inl ⟨by rfl, fun w hw => by go_simp; try rfl⟩) hHeld ?_
    try simp only [Act.put, List.setIfInBounds_toArray, List.set_cons_zero, List.set_cons_succ]
    refine wpAnyH_take' (i := 1) (d := 172) rfl rfl (by kernel_rfl) (by kernel_rfl) (by kernel_rfl) (fun _ _ _ h => h) (Or.inl ⟨by rfl, fun w hw => by go_simp; try rfl⟩) hHeld ?_
    try simp only [Act.put, List.setIfInBounds_toArray, List.set_cons_zero, List.set_cons_succ]
    refine wpAnyH_take' (i := 2) (d := 173) rfl rfl (by kernel_rfl) (by kernel_rfl) (by kernel_rfl) (fun _ _ _ h => h) (Or.inl ⟨by rfl, fun w hw => by go_simp; try rfl⟩) hHeld ?_
    try simp only [Act.put, List.setIfInBounds_toArray, List.set_cons_zero, List.set_cons_succ]
    refine wpAnyH_take' (i := 3) (d := 174) rfl rfl (by kernel_rfl) (by kernel_rfl) (by kernel_rfl) (fun _ _ _ h => h) (Or.inl ⟨by rfl, fun w hw => by obtain ⟨s', hw⟩ := hw; obtain ⟨c0, x40, x41, x42, x107, x173⟩ := ocells hw (gx := gx) (by simp); have cT := hw.m.cell 2408 (by omega); rw [hT] at cT; go_simp; try rfl⟩) hHeld ?_
    try simp only [Act.put, List.setIfInBounds_toArray, List.set_cons_zero, List.set_cons_succ]
    refine wpAnyH_take' (i := 4) (d := 175) rfl rfl (by kernel_rfl) (by kernel_rfl) (by kernel_rfl) (fun _ _ _ h => h) (yieldsIf_load_mid (by rfl) 33 _ rfl g11 0 rfl (cellsL (adr 1)) _ (fun w hw => by obtain ⟨s', hw⟩ := hw; exact (hw.blk (g := g11) (cs := cellsL (adr 1)) (by simp)).cell) Safg.under33 rfl Safg.size33) hHeld ?_
    try simp only [Act.put, List.setIfInBounds_toArray, List.set_cons_zero, List.set_cons_succ]
    refine wpAnyH_take' (i := 5) (d := 176) rfl rfl (by kernel_rfl) (by kernel_rfl) (by kernel_rfl) (fun _ _ _ h => h) (Or.inl ⟨by rfl, fun w hw => by go_simp; try rfl⟩) hHeld ?_
    try simp only [Act.put, List.setIfInBounds_toArray, List.set_cons_zero, List.set_cons_succ]
    refine wpAnyH_take' (i := 6) (d := 177) rfl rfl (by kernel_rfl) (by kernel_rfl) (by kernel_rfl) (fun _ _ _ h => h) (yieldsIf_load_mid (by rfl) 33 _ rfl gx 0 rfl (cellsL (adr 240)) _ (fun w hw => by obtain ⟨s', hw⟩ := hw; exact tx_from (hw.blk (by simp))) Safg.under33 rfl Safg.size33) hHeld ?_
    try simp only [Act.put, List.setIfInBounds_toArray, List.set_cons_zero, List.set_cons_succ]
    refine wpAnyH_take' (i := 7) (d := 178) rfl rfl (by kernel_rfl) (by kernel_rfl) (by kernel_rfl) (fun _ _ _ h => h) (Or.inl ⟨by rfl, fun w hw => by go_simp; try rfl⟩) hHeld ?_
    try simp only [Act.put, List.setIfInBounds_toArray, List.set_cons_zero, List.set_cons_succ]
    refine wpAnyH_take' (i := 8) (d := 179) rfl rfl (by kernel_rfl) (by kernel_rfl) (by kernel_rfl) (fun _ _ _ h => h) (yieldsIf_load_mid (by rfl) 51 _ rfl gx 75 rfl (cellsL (List.replicate 32 0)) _ (fun w hw => by obtain ⟨s', hw⟩ := hw; exact tx_value (hw.blk (by simp))) Safg.under51 rfl Safg.size51) hHeld ?_
    try simp only [Act.put, List.setIfInBounds_toArray, List.set_cons_zero, List.set_cons_succ]
    refine wpAnyH_two 9 11 (by kernel_rfl) rfl rfl rfl rfl ?_ ?_
    · refine wp_callR Safg.func63 (by kernel_rfl) (by kernel_rfl) (fromBytes_0 w29) rfl rfl ?_
      rintro e w30 ⟨rfl, bw30⟩
      have o29 := o29.below bw30
      have HX : ∀ p ∈ ((g11, cellsL (adr 1)) :: (g6, Wd4.zero.cells) :: (gx, txL) :: (gK, cellsL C) :: ks), p.1 < w30.heap.size := fun p hp => (o29.ks p hp).1.lt
      have hHeld : ∃ s', OS B w0 w30 gm gv f18 s' ((g11, cellsL (adr 1)) :: (g6, Wd4.zero.cells) :: (gx, txL) :: (gK, cellsL C) :: ks) := ⟨_, o29⟩
      refine ⟨_, rfl, hHeld, ?_⟩
      try simp only [Act.put, List.setIfInBounds_toArray, List.set_cons_zero, List.set_cons_succ]
      refine wpAnyH_take' (i := 10) (d := 181) rfl rfl (by kernel_rfl) (by kernel_rfl) (by kernel_rfl) (fun _ _ _ h => h) (yieldsIf_build (by rfl) 70 _ rfl [(0, .int .u8 0), (7, .int .u64 ((179000 : Nat) : Int)), (9, arrV (adr 1)), (10, arrV (adr 240)), (11, Wd4.zero.v)] rfl _ (built70 179000)) hHeld ?_
      try simp only [Act.put, List.setIfInBounds_toArray, List.set_cons_zero, List.set_cons_succ]
      refine wpAnyH_one 11 (by kernel_rfl) rfl rfl ?_
      refine wp_allocR 70 rfl _ Safg.zero70 ?_
      intro w31 g12 hg12 k12 bw31
      have f12 := o29.fresh hg12
      have n12 : ∀ p ∈ ((g11, cellsL (adr 1)) :: (g6, Wd4.zero.cells) :: (gx, txL) :: (gK, cellsL C) :: ks), p.1 ≠ g12 := fun p hp => by have := HX p hp; omega
      have hB12 : B ≤ g12 := Nat.le_trans o29.hB hg12
      have o29 := o29.below bw31
      have hHeld : ∃ s', OS B w0 w31 gm gv f18 s' ((g11, cellsL (adr 1)) :: (g6, Wd4.zero.cells) :: (gx, txL) :: (gK, cellsL C) :: ks) := ⟨_, o29⟩
      refine ⟨hHeld, ?_⟩
      try simp only [Act.put, List.setIfInBounds_toArray, List.set_cons_zero, List.set_cons_succ]
      refine wpAnyH_one 12 (by kernel_rfl) rfl rfl ?_
      refine wp_storeR 70 _ _ rfl g12 rfl frZ (frL 179000 (.slice none 0 0)) rfl k12 rfl Safg.size70 (frL_one _ _ rfl) ?_
      intro w33 k33 n33
      have o33 := o29.off f12.1 f12.2 n12 hB12 n33
      refine ⟨⟨_, o33⟩, ?_⟩
      try simp only [Act.put, List.setIfInBounds_toArray, List.set_cons_zero, List.set_cons_succ]
      refine wpAnyH_done (by kernel_rfl) ?_ _
      exact NormQ.mk ⟨g12, rfl, o33.keep k33 f12, n12, hB12⟩
    · refine wp_allocR 70 rfl _ Safg.zero70 ?_
      intro w30 g12 hg12 k12 bw30
      have f12 := o29.fresh hg12
      have n12 : ∀ p ∈ ((g11, cellsL (adr 1)) :: (g6, Wd4.zero.cells) :: (gx, txL) :: (gK, cellsL C) :: ks), p.1 ≠ g12 := fun p hp => by have := HX p hp; omega
      have hB12 : B ≤ g12 := Nat.le_trans o29.hB hg12
      have o29 := o29.below bw30
      have hHeld : ∃ s', OS B w0 w30 gm gv f18 s' ((g11, cellsL (adr 1)) :: (g6, Wd4.zero.cells) :: (gx, txL) :: (gK, cellsL C) :: ks) := ⟨_, o29⟩
      refine ⟨hHeld, ?_⟩
      try simp only [Act.put, List.setIfInBounds_toArray, List.set_cons_zero, List.set_cons_succ]
      refine wpAnyH_one 9 (by kernel_rfl) rfl rfl ?_
      refine wp_callR Safg.func63 (by kernel_rfl) (by kernel_rfl) (fromBytes_0 w30) rfl rfl ?_
      rintro e w31 ⟨rfl, bw31⟩
      have k12 := k12.below bw31 k12.lt
      have o29 := o29.below bw31
      have HX : ∀ p ∈ ((g11, cellsL (adr 1)) :: (g6, Wd4.zero.cells) :: (gx, txL) :: (gK, cellsL C) :: ks), p.1 < w31.heap.size := fun p hp => (o29.ks p hp).1.lt
      have hHeld : ∃ s', OS B w0 w31 gm gv f18 s' ((g11, cellsL (adr 1)) :: (g6, Wd4.zero.cells) :: (gx, txL) :: (gK, cellsL C) :: ks) := ⟨_, o29⟩
      refine ⟨_, rfl, hHeld, ?_⟩
      try simp only [Act.put, List.setIfInBounds_toArray, List.set_cons_zero, List.set_cons_succ]
      refine wpAnyH_take' (i := 10) (d := 181) rfl rfl (by kernel_rfl) (by kernel_rfl) (by kernel_rfl) (fun _ _ _ h => h) (yieldsIf_build (by rfl) 70 _ rfl [(0, .int .u8 0), (7, .int .u64 ((179000 : Nat) : Int)), (9, arrV (adr 1)), (10, arrV (adr 240)), (11, Wd4.zero.v)] rfl _ (built70 179000)) hHeld ?_
      try simp only [Act.put, List.setIfInBounds_toArray, List.set_cons_zero, List.set_cons_succ]
      refine wpAnyH_one 12 (by kernel_rfl) rfl rfl ?_
      refine wp_storeR 70 _ _ rfl g12 rfl frZ (frL 179000 (.slice none 0 0)) rfl k12 rfl Safg.size70 (frL_one _ _ rfl) ?_
      intro w33 k33 n33
      have o33 := o29.off f12.1 f12.2 n12 hB12 n33
      refine ⟨⟨_, o33⟩, ?_⟩
      try simp only [Act.put, List.setIfInBounds_toArray, List.set_cons_zero, List.set_cons_succ]
      refine wpAnyH_done (by kernel_rfl) ?_ _
      exact NormQ.mk ⟨g12, rfl, o33.keep k33 f12, n12, hB12⟩
  case hn =>
    intro g12 w33 ⟨o33, n12, hB12⟩
    clear o29 HX
    obtain ⟨c0, x40, x41, x42, x107, x173⟩ := ocells o33 (gx := gx) (by simp)
    have k11 := o33.blk (g := g11) (cs := cellsL (adr 1)) (by simp)
    go_upto_region 31 with fail
    go_upto_region 33 with (first | (refine wpList_load_mid rfl 33 (.tmp 11) rfl g11 0 rfl (cellsL (adr 1)) _ k11.cell Safg.under33 rfl Safg.size33 ?_) | (go_at_call 64; refine (nativeAt_one _).mono ?_; rintro e w34 ⟨rfl, b34⟩; have o34 := o33.below b34; have k12 := o34.blk (g := g12) (cs := frL 179000 (.slice none 0 0)) (by simp); have d2 : w34.cell? ⟨g12, 2, none⟩ = some (.int .u8 0) := k12.get rfl; have z2 := k12.free 2; have e2 : w34.setCell ⟨g12, 2, none⟩ (.int .u8 0) = w34 := setCell_self d2))
    clear o33 c0 x40 x41 x42 x107 x173 k11 d2 z2 e2 b34
    have f12 := (o34.ks (g12, frL 179000 (.slice none 0 0)) (by simp)).2
    have o35 := o34.drop.drew
    have k35 := (Same.drew w34).blk k12
    have kK := o35.blk (g := gK) (cs := cellsL C) (by simp)
    have ownK : Own w34.drew gK C := ⟨kK.lt, fun j hj => kK.get (by rw [cellsL, List.getElem?_map, List.getD_eq_getElem?_getD, List.getElem?_eq_getElem hj]; rfl), kK.free⟩
    have HCo := code_some B w34.drew gv s27 o35.v (adr 1) rfl (adr_dig (by omega)) 0 { x0 with warm := true } (by rw [v27.a]; rfl) a0 (by rw [v27.t]; exact (by simp [putTab, tb0, home_1, home_240, home_192, home_4, home_5])) gK 100 100 C p0 ownK hC.len dC (by omega) (by omega)
    refine wp_region_held_drew (S := fun w' => ∃ s', OS B w0 w' gm gv f18 s' ((g11, cellsL (adr 1)) :: (g6, Wd4.zero.cells) :: (gx, txL) :: (gK, cellsL C) :: ks)) (by kernel_rfl) ⟨_, o35⟩ (fun hHeld => ?_)
    refine wpAnyH_take' (i := 0) (d := 191) rfl rfl (by kernel_rfl) (by kernel_rfl) (by kernel_rfl) (fun _ _ _ h => h) (Or.inl ⟨by rfl, fun w hw => by go_simp; try rfl⟩) hHeld ?_
    try simp only [Act.put, List.setIfInBounds_toArray, List.set_cons_zero, List.set_cons_succ]
    refine wpAnyH_take' (i := 1) (d := 192) rfl rfl (by kernel_rfl) (by kernel_rfl) (by kernel_rfl) (fun _ _ _ h => h) (Or.inl ⟨by rfl, fun w hw => by go_simp; try rfl⟩) hHeld ?_
    try simp only [Act.put, List.setIfInBounds_toArray, List.set_cons_zero, List.set_cons_succ]
    refine wpAnyH_take' (i := 2) (d := 193) rfl rfl (by kernel_rfl) (by kernel_rfl) (by kernel_rfl) (fun _ _ _ h => h) (Or.inl ⟨by rfl, fun w hw => by go_simp; try rfl⟩) hHeld ?_
    try simp only [Act.put, List.setIfInBounds_toArray, List.set_cons_zero, List.set_cons_succ]
    refine wpAnyH_take' (i := 3) (d := 194) rfl rfl (by kernel_rfl) (by kernel_rfl) (by kernel_rfl) (fun _ _ _ h => h) (Or.inl ⟨by rfl, fun w hw => by obtain ⟨s', hw⟩ := hw; obtain ⟨c0, x40, x41, x42, x107, x173⟩ := ocells hw (gx := gx) (by simp); have cT := hw.m.cell 2408 (by omega); rw [hT] at cT; go_simp; try rfl⟩) hHeld ?_
    try simp only [Act.put, List.setIfInBounds_toArray, List.set_cons_zero, List.set_cons_succ]
    refine wpAnyH_take' (i := 4) (d := 195) rfl rfl (by kernel_rfl) (by kernel_rfl) (by kernel_rfl) (fun _ _ _ h => h) (yieldsIf_load_mid (by rfl) 33 _ rfl g11 0 rfl (cellsL (adr 1)) _ (fun w hw => by obtain ⟨s', hw⟩ := hw; exact (hw.blk (g := g11) (cs := cellsL (adr 1)) (by simp)).cell) Safg.under33 rfl Safg.size33) hHeld ?_
    try simp only [Act.put, List.setIfInBounds_toArray, List.set_cons_zero, List.set_cons_succ]
    refine wpAnyH_one 5 (by kernel_rfl) rfl rfl ?_
    refine wp_callR Safg.func65 (by kernel_rfl) (by kernel_rfl) HCo rfl rfl ?_
    rintro e w36 ⟨gk, rfl, hgk, own36, b36⟩
    have o36 := o35.add b36 hgk own36.blk
    have k36 := k35.below b36 k35.lt
    refine ⟨_, rfl, ⟨_, o36.drop⟩, ?_⟩
    try simp only [Act.put, List.setIfInBounds_toArray, List.set_cons_zero, List.set_cons_succ]
    refine wpAnyH_take' (i := 6) (d := 197) rfl rfl (by kernel_rfl) (by kernel_rfl) (by kernel_rfl) (fun _ _ _ h => h) (Or.inl ⟨by rfl, fun w hw => by go_simp; try rfl⟩) ⟨_, o36.drop⟩ ?_
    try simp only [Act.put, List.setIfInBounds_toArray, List.set_cons_zero, List.set_cons_succ]
    have hne : gk ≠ g12 := by have := k35.lt; omega
    have d53 : w36.cell? ⟨g12, 53, none⟩ = some (.slice none 0 0) := k36.get rfl
    have z53 := k36.free 53
    have n37 := (Only.refl g12 w36).setCell 53 (.slice (some ⟨gk, 0, none⟩) 100 100)
    have k37 := k36.set (k := 53) (by rw [frL_length]; omega) (.slice (some ⟨gk, 0, none⟩) 100 100)
    rw [frL_code] at k37
    have o37 := o36.off f12.1 f12.2 (fun p hp => by rcases List.mem_cons.1 hp with rfl | hp; exact hne; exact n12 p hp) hB12 n37
    refine wpAnyH_oneK 7 (by kernel_rfl) rfl rfl ?_
    intro K hK
    go_simp
    refine hK.out _ _ ⟨_, o37.drop⟩ ?_
    clear hK K
    try simp only [Act.put, List.setIfInBounds_toArray, List.set_cons_zero, List.set_cons_succ]
    refine wpAnyH_done (by kernel_rfl) ?_ _
    clear hHeld o34 o35 o36 k12 k35 k36 kK ownK HCo b36 own36 d53 z53 n37
    generalize w36.setCell ⟨g12, 53, none⟩ (.slice (some ⟨gk, 0, none⟩) 100 100) = w37 at *
    obtain ⟨c0, x40, x41, x42, x107, x173⟩ := ocells o37 (gx := gx) (by simp)
    have d54 : w37.cell? ⟨g12, 54, none⟩ = some (.slice none 0 0) := k37.get rfl
    have z54 := k37.free 54
    have e54 : w37.setCell ⟨g12, 54, none⟩ (.slice none 0 0) = w37 := setCell_self d54
    have HE := enter_any B w0 w37 gm gv gk 179000 o f18 s27 _ C o37 v27.n hC dC
    go_upto_region 35 with (go_at_call 66; refine (ecopied_nil _).mono ?_; rintro e w38 ⟨rfl, rfl⟩)
    try rw [e54]
    go_wp2_with (first | (refine wpList_load_mid rfl 70 (.tmp 12) rfl g12 0 rfl (frL 179000 (.slice (some ⟨gk, 0, none⟩) 100 100)) _ k37.cell u70 rfl Safg.size70 ?_) | (go_at_call 67; refine HE.mono ?_; rintro e w39 ⟨rfl, R39, b39⟩))
    go_ret
    exact ⟨rfl, gk, R39, b39⟩
end Go.Proofs.YgcsafGreat
