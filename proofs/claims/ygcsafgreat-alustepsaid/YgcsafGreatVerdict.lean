/-
  'engine.verdict' (51) of the law's transaction.
-/
import Derived.Test.YgcsafGreatZero
import Derived.Test.YgcsafGreatMSm
import Derived.Test.YgcsafGreatCutR
namespace Go.Proofs.YgcsafGreat
open Go.RowKit
set_option linter.unusedVariables false
set_option linter.unusedSimpArgs false

set_option maxRecDepth 100000 in
theorem Safg.under58 : ∃ fs, Safg.prog.underlying 58 = some (.struct fs) := ⟨_, rfl⟩
/-- What the machine's cells say ahead of the transaction. -/
structure VF (f : Nat → Value) : Prop where
  phase : f 2404 = .int .u8 0
  applied : f 2406 = .int .u8 0
  limit : f 2282 = .int .u64 1048576
  base : ∀ i v, (cellsL (List.replicate 32 0))[i]? = some v → f (2347 + i) = v
theorem vcells {B : Nat} {w0 w : World} {gm gv gx : Nat} {f : Nat → Value} {s : Vst} {ks : List (Nat × List Value)} (h : OS B w0 w gm gv f s ks) (hx : (gx, txL) ∈ ks) (hf : VF f) :
    w.cell? ⟨gm, 0, none⟩ = some (.pointer (some ⟨gv, 0, none⟩)) ∧ w.cell? ⟨gm, 2404, none⟩ = some (.int .u8 0) ∧ w.cell? ⟨gm, 2406, none⟩ = some (.int .u8 0) ∧ w.cell? ⟨gm, 2282, none⟩ = some (.int .u64 1048576) ∧ w.cell? ⟨gx, 40, none⟩ = some (.bool false) ∧ w.cell? ⟨gx, 41, none⟩ = some (.int .u64 0) ∧ w.cell? ⟨gx, 42, none⟩ = some (.int .u64 200000) ∧ w.cell? ⟨gx, 107, none⟩ = some (.slice none 0 0) ∧ w.cell? ⟨gx, 173, none⟩ = some (.slice none 0 0) := by
  have k := h.blk hx
  refine ⟨?_, ?_, ?_, ?_, k.get rfl, k.get rfl, k.get rfl, k.get rfl, k.get rfl⟩
  · rw [h.m.cell 0 (by omega), h.o.s]
  · rw [h.m.cell 2404 (by omega), hf.phase]
  · rw [h.m.cell 2406 (by omega), hf.applied]
  · rw [h.m.cell 2282 (by omega), hf.limit]
theorem fromBytes_0 (w : World) : Calls Safg.prog 63 #[arrV (List.replicate 32 0)] w fun e w' => e = .returned Wd4.zero.v ∧ Below w.heap.size w w' :=
  (fromBytes_any w (List.replicate 32 0) rfl (D.Dig.replicate _)).mono fun e w' ⟨he, b⟩ => ⟨by rw [he, wdOf_zero], b⟩
set_option maxRecDepth 100000 in
theorem built65 (n : Nat) : Safg.prog.built 65 [(0, .int .u64 (n : Int))] = some (Wd4.cells ⟨n, 0, 0, 0⟩).toArray := by kernel_rfl
theorem gas_ok : (⟨200000, 0, 0, 0⟩ : Wd4).Ok := ⟨by decide, by decide, by decide, by decide⟩
theorem results_tmp_cell {fn : Func} {p q : Tmp} {ty : TypeId} (h : fn.results = #[.tmp p, .cell q ty]) (tmps : Array Value) (w : World) (v : Value) (g : Nat) (cs : List Value) (d : TypeDesc) (hp : tmps.getD p undef = v) (hq : tmps.getD q undef = .pointer (some ⟨g, 0, none⟩)) (hb : Blk w g cs)
    (hu : Safg.prog.underlying ty = some d) (hd : d.isRow = true) (hi : (Safg.prog.info? ty).map (·.size) = some cs.length) : (results fn tmps).run Safg.prog w = .ok (.tuple #[v, .agg cs.toArray]) w := by
  have hp' : tmps[p]?.getD undef = v := by simpa using hp
  have hq' : tmps[q]?.getD undef = .pointer (some ⟨g, 0, none⟩) := by simpa using hq
  simp [results, h, hp', hq', asAddr, run_loadVar_mid w g 0 ty cs d hb.cell hu hd hi]
/-- One guarded operation alone may come up, and is wanted. -/
theorem wpAnyH_oneG {P : Program} {ops : Array Oper} {Q : Exit → Act → World → Prop} {md : Region.Mode} {S : World → Prop} (i : Nat) {o : Oper} {r : List Oper} {fuel : Nat} {listed : Array Bool} {a : Act} {w : World} (hr : Region.ready md ops listed = [i]) (ho : ops.toList.drop i = o :: r)
    (hw : Region.wanted o (yielded ops a.tmps) = true) (h : Oper.wp P o a w (fun a' w' => S w' ∧ wpAnyH P md ops Q S fuel (listed.setIfInBounds i true) a' w') Q) : wpAnyH P md ops Q S (fuel + 1) listed a w := by
  refine wpAnyH_all hr (by simp) fun j hj => ?_
  obtain rfl : j = i := by simpa using hj
  unfold Go.wpOp
  simp only [op_at ho, hw, if_true]
  exact .inl h

set_option maxRecDepth 100000 in
set_option maxHeartbeats 8000000 in
theorem verdict_tx (B : Nat) (w0 w : World) (gm gv : Nat) (f : Nat → Value) (s : Vst) (ks : List (Nat × List Value)) (h : OS B w0 w gm gv f s ks) (hf : VF f) (i : Nat) (x : Ac) (hx : s.accts[i]? = some x) (hxa : x.addr = adr 240) (ht : s.tab (homeN (adr 240)) = (i : Int)) (hn : x.nonce = 0) (hc : x.code = .slice none 0 0) :
    Calls Safg.prog 51 #[.pointer (some ⟨gm, 0, none⟩), .agg txL.toArray] w fun e w' => e = .returned (.tuple #[.int .u8 0, Wd4.zero.v]) ∧ Below w.heap.size w w' := by
  have HN : ∀ w, VOk B w gv s → Calls Safg.prog 160 #[.pointer (some ⟨gv, 0, none⟩), arrV (adr 240)] w fun e w' => e = .returned (.int .u64 0) ∧ Below w.heap.size w w' := fun w hv =>
    (nonce_some B w gv s hv (adr 240) rfl (adr_dig (by omega)) i x hx hxa ht).mono fun e w' ⟨he, b⟩ => ⟨by rw [he, hn]; rfl, b⟩
  have HC := fun w (hv : VOk B w gv s) => code_nil B w gv s hv (adr 240) rfl (adr_dig (by omega)) i x hx hxa ht hc
  have HB := fun w (hv : VOk B w gv s) => balance_some B w gv s hv (adr 240) rfl (adr_dig (by omega)) i x hx hxa ht
  have hbal : x.bal.Ok := (h.v.ok x (List.mem_of_getElem? hx)).bal
  obtain ⟨fs, u58⟩ := Safg.under58
  clear hx hxa ht hn hc
  go_enter Safg.func51, Safg.ntmps51
  go_upto_region 1 with (first | (refine wpList_box_agg rfl 58 (.tmp 1) rfl txL rfl ?_; intro w1 gx hgx kx b1) | (refine wpList_alloc_agg rfl 65 rfl _ Safg.zero65 ?_; intro w2 g5 hg5 k5 b2))
  have o2 := (h.add b1 hgx kx).add b2 hg5 k5
  have bb2 := b1.trans (b2.mono b1.size)
  obtain ⟨c0, cPh, cAp, cGL, x40, x41, x42, x107, x173⟩ := vcells o2 (gx := gx) (by simp) hf
  clear kx k5 b1 b2 h
  go_upto_region 7 with (go_at_call 159; refine (listOK_nil _ gx x173).mono ?_; rintro e w3 ⟨rfl, rfl⟩)
  clear c0 cPh cAp cGL x40 x41 x42 x107 x173
  refine wp_region_held_drew (S := fun w' => OS B w0 w' gm gv f s ((g5, Wd4.zero.cells) :: (gx, txL) :: ks)) (by kernel_rfl) o2.drew (fun hHeld => ?_)
  refine wpAnyH_take' (i := 0) (d := 50) rfl rfl (by kernel_rfl) (by kernel_rfl) (by kernel_rfl) (fun _ _ _ h => h) (Or.inl ⟨by rfl, fun w hw => by go_simp; try rfl⟩) hHeld ?_
  try simp only [Act.put, List.setIfInBounds_toArray, List.set_cons_zero, List.set_cons_succ]
  refine wpAnyH_take' (i := 1) (d := 51) rfl rfl (by kernel_rfl) (by kernel_rfl) (by kernel_rfl) (fun _ _ _ h => h) (Or.inl ⟨by rfl, fun w hw => by go_simp; try rfl⟩) hHeld ?_
  try simp only [Act.put, List.setIfInBounds_toArray, List.set_cons_zero, List.set_cons_succ]
  refine wpAnyH_take' (i := 2) (d := 52) rfl rfl (by kernel_rfl) (by kernel_rfl) (by kernel_rfl) (fun _ _ _ h => h) (Or.inl ⟨by rfl, fun w hw => by go_simp; try rfl⟩) hHeld ?_
  try simp only [Act.put, List.setIfInBounds_toArray, List.set_cons_zero, List.set_cons_succ]
  refine wpAnyH_take' (i := 3) (d := 53) rfl rfl (by kernel_rfl) (by kernel_rfl) (by kernel_rfl) (fun _ _ _ h => h) (Or.inl ⟨by rfl, fun w hw => by obtain ⟨c0, cPh, cAp, cGL, x40, x41, x42, x107, x173⟩ := vcells hw (gx := gx) (by simp) hf; go_simp; try rfl⟩) hHeld ?_
  try simp only [Act.put, List.setIfInBounds_toArray, List.set_cons_zero, List.set_cons_succ]
  refine wpAnyH_take' (i := 4) (d := 54) rfl rfl (by kernel_rfl) (by kernel_rfl) (by kernel_rfl) (fun _ _ _ h => h) (Or.inl ⟨by rfl, fun w hw => by go_simp; try rfl⟩) hHeld ?_
  try simp only [Act.put, List.setIfInBounds_toArray, List.set_cons_zero, List.set_cons_succ]
  refine wpAnyH_take' (i := 5) (d := 55) rfl rfl (by kernel_rfl) (by kernel_rfl) (by kernel_rfl) (fun _ _ _ h => h) (yieldsIf_load_mid (by rfl) 33 _ rfl gx 0 rfl (cellsL (adr 240)) _ (fun w hw => tx_from (hw.blk (by simp))) Safg.under33 rfl Safg.size33) hHeld ?_
  try simp only [Act.put, List.setIfInBounds_toArray, List.set_cons_zero, List.set_cons_succ]
  refine wpAnyH_one 6 (by kernel_rfl) rfl rfl ?_
  refine wp_callR Safg.func160 (by kernel_rfl) (by kernel_rfl) (HN w3.drew hHeld.v) rfl rfl ?_
  rintro e w4 ⟨rfl, bw4⟩
  have o4 := hHeld.below bw4
  refine ⟨_, rfl, o4, ?_⟩
  try simp only [Act.put, List.setIfInBounds_toArray, List.set_cons_zero, List.set_cons_succ]
  refine wpAnyH_take' (i := 7) (d := 6) rfl rfl (by kernel_rfl) (by kernel_rfl) (by kernel_rfl) (fun _ _ _ h => h) (Or.inl ⟨by rfl, fun w hw => by go_simp; try rfl⟩) o4 ?_
  try simp only [Act.put, List.setIfInBounds_toArray, List.set_cons_zero, List.set_cons_succ]
  refine wpAnyH_done (by kernel_rfl) ?_ _
  have bb4 := (bb2.trans ((Turn.drew_below w3).mono bb2.size)).trans (bw4.mono bb2.size)
  clear hHeld bw4 o2 bb2
  obtain ⟨c0, cPh, cAp, cGL, x40, x41, x42, x107, x173⟩ := vcells o4 (gx := gx) (by simp) hf
  go_upto_region 12 with fail
  clear c0 cPh cAp cGL x40 x41 x42 x107 x173
  refine wp_region_held_drew (S := fun w' => OS B w0 w' gm gv f s ((g5, Wd4.zero.cells) :: (gx, txL) :: ks)) (by kernel_rfl) o4.drew (fun hHeld => ?_)
  refine wpAnyH_take' (i := 0) (d := 68) rfl rfl (by kernel_rfl) (by kernel_rfl) (by kernel_rfl) (fun _ _ _ h => h) (Or.inl ⟨by rfl, fun w hw => by go_simp; try rfl⟩) hHeld ?_
  try simp only [Act.put, List.setIfInBounds_toArray, List.set_cons_zero, List.set_cons_succ]
  refine wpAnyH_take' (i := 1) (d := 69) rfl rfl (by kernel_rfl) (by kernel_rfl) (by kernel_rfl) (fun _ _ _ h => h) (Or.inl ⟨by rfl, fun w hw => by go_simp; try rfl⟩) hHeld ?_
  try simp only [Act.put, List.setIfInBounds_toArray, List.set_cons_zero, List.set_cons_succ]
  refine wpAnyH_take' (i := 2) (d := 70) rfl rfl (by kernel_rfl) (by kernel_rfl) (by kernel_rfl) (fun _ _ _ h => h) (Or.inl ⟨by rfl, fun w hw => by go_simp; try rfl⟩) hHeld ?_
  try simp only [Act.put, List.setIfInBounds_toArray, List.set_cons_zero, List.set_cons_succ]
  refine wpAnyH_take' (i := 3) (d := 71) rfl rfl (by kernel_rfl) (by kernel_rfl) (by kernel_rfl) (fun _ _ _ h => h) (Or.inl ⟨by rfl, fun w hw => by obtain ⟨c0, cPh, cAp, cGL, x40, x41, x42, x107, x173⟩ := vcells hw (gx := gx) (by simp) hf; go_simp; try rfl⟩) hHeld ?_
  try simp only [Act.put, List.setIfInBounds_toArray, List.set_cons_zero, List.set_cons_succ]
  refine wpAnyH_take' (i := 4) (d := 72) rfl rfl (by kernel_rfl) (by kernel_rfl) (by kernel_rfl) (fun _ _ _ h => h) (Or.inl ⟨by rfl, fun w hw => by go_simp; try rfl⟩) hHeld ?_
  try simp only [Act.put, List.setIfInBounds_toArray, List.set_cons_zero, List.set_cons_succ]
  refine wpAnyH_take' (i := 5) (d := 73) rfl rfl (by kernel_rfl) (by kernel_rfl) (by kernel_rfl) (fun _ _ _ h => h) (yieldsIf_load_mid (by rfl) 33 _ rfl gx 0 rfl (cellsL (adr 240)) _ (fun w hw => tx_from (hw.blk (by simp))) Safg.under33 rfl Safg.size33) hHeld ?_
  try simp only [Act.put, List.setIfInBounds_toArray, List.set_cons_zero, List.set_cons_succ]
  refine wpAnyH_one 6 (by kernel_rfl) rfl rfl ?_
  refine wp_callR Safg.func65 (by kernel_rfl) (by kernel_rfl) (HC w4.drew hHeld.v) rfl rfl ?_
  rintro e w5 ⟨rfl, bw5⟩
  have o5 := hHeld.below bw5
  refine ⟨_, rfl, o5, ?_⟩
  try simp only [Act.put, List.setIfInBounds_toArray, List.set_cons_zero, List.set_cons_succ]
  refine wpAnyH_take' (i := 7) (d := 75) rfl rfl (by kernel_rfl) (by kernel_rfl) (by kernel_rfl) (fun _ _ _ h => h) (Or.inl ⟨by rfl, fun w hw => by go_simp; try rfl⟩) o5 ?_
  try simp only [Act.put, List.setIfInBounds_toArray, List.set_cons_zero, List.set_cons_succ]
  refine wpAnyH_take' (i := 8) (d := 76) rfl rfl (by kernel_rfl) (by kernel_rfl) (by kernel_rfl) (fun _ _ _ h => h) (Or.inl ⟨by rfl, fun w hw => by go_simp; try rfl⟩) o5 ?_
  try simp only [Act.put, List.setIfInBounds_toArray, List.set_cons_zero, List.set_cons_succ]
  refine wpAnyH_take' (i := 9) (d := 67) rfl rfl (by kernel_rfl) (by kernel_rfl) (by kernel_rfl) (fun _ _ _ h => h) (Or.inl ⟨by rfl, fun w hw => by go_simp; try rfl⟩) o5 ?_
  try simp only [Act.put, List.setIfInBounds_toArray, List.set_cons_zero, List.set_cons_succ]
  refine wpAnyH_done (by kernel_rfl) ?_ _
  have bb5 := (bb4.trans ((Turn.drew_below w4).mono bb4.size)).trans (bw5.mono bb4.size)
  clear hHeld bw5 o4 bb4
  obtain ⟨c0, cPh, cAp, cGL, x40, x41, x42, x107, x173⟩ := vcells o5 (gx := gx) (by simp) hf
  go_upto_region 16 with fail
  clear c0 cPh cAp cGL x40 x41 x42 x107 x173
  refine wp_region_held_drew (S := fun w' => OS B w0 w' gm gv f s ((g5, Wd4.zero.cells) :: (gx, txL) :: ks)) (by kernel_rfl) o5.drew (fun hHeld => ?_)
  refine wpAnyH_take' (i := 0) (d := 89) rfl rfl (by kernel_rfl) (by kernel_rfl) (by kernel_rfl) (fun _ _ _ h => h) (Or.inl ⟨by rfl, fun w hw => by go_simp; try rfl⟩) hHeld ?_
  try simp only [Act.put, List.setIfInBounds_toArray, List.set_cons_zero, List.set_cons_succ]
  refine wpAnyH_take' (i := 1) (d := 90) rfl rfl (by kernel_rfl) (by kernel_rfl) (by kernel_rfl) (fun _ _ _ h => h) (Or.inl ⟨by rfl, fun w hw => by obtain ⟨c0, cPh, cAp, cGL, x40, x41, x42, x107, x173⟩ := vcells hw (gx := gx) (by simp) hf; go_simp; try rfl⟩) hHeld ?_
  try simp only [Act.put, List.setIfInBounds_toArray, List.set_cons_zero, List.set_cons_succ]
  refine wpAnyH_take' (i := 2) (d := 91) rfl rfl (by kernel_rfl) (by kernel_rfl) (by kernel_rfl) (fun _ _ _ h => h) (yieldsIf_load_mid (by rfl) 58 _ rfl gx 0 rfl txL _ (fun w hw => (hw.blk (g := gx) (cs := txL) (by simp)).cell) u58 rfl Safg.size58) hHeld ?_
  try simp only [Act.put, List.setIfInBounds_toArray, List.set_cons_zero, List.set_cons_succ]
  refine wpAnyH_one 3 (by kernel_rfl) rfl rfl ?_
  refine wp_callR Safg.func55 (by kernel_rfl) (by kernel_rfl) (intrinsic_tx w5.drew) rfl rfl ?_
  rintro e w6 ⟨rfl, bw6⟩
  have o6 := hHeld.below bw6
  refine ⟨_, rfl, o6, ?_⟩
  try simp only [Act.put, List.setIfInBounds_toArray, List.set_cons_zero, List.set_cons_succ]
  refine wpAnyH_take' (i := 4) (d := 93) rfl rfl (by kernel_rfl) (by kernel_rfl) (by kernel_rfl) (fun _ _ _ h => h) (Or.inl ⟨by rfl, fun w hw => by go_simp; try rfl⟩) o6 ?_
  try simp only [Act.put, List.setIfInBounds_toArray, List.set_cons_zero, List.set_cons_succ]
  refine wpAnyH_take' (i := 5) (d := 88) rfl rfl (by kernel_rfl) (by kernel_rfl) (by kernel_rfl) (fun _ _ _ h => h) (Or.inl ⟨by rfl, fun w hw => by go_simp; try rfl⟩) o6 ?_
  try simp only [Act.put, List.setIfInBounds_toArray, List.set_cons_zero, List.set_cons_succ]
  refine wpAnyH_done (by kernel_rfl) ?_ _
  have bb6 := (bb5.trans ((Turn.drew_below w5).mono bb5.size)).trans (bw6.mono bb5.size)
  clear hHeld bw6 o5 bb5
  obtain ⟨c0, cPh, cAp, cGL, x40, x41, x42, x107, x173⟩ := vcells o6 (gx := gx) (by simp) hf
  go_upto_region 18 with fail
  clear c0 cPh cAp cGL x40 x41 x42 x107 x173
  refine wp_region_held_drew (S := fun w' => OS B w0 w' gm gv f s ((g5, Wd4.zero.cells) :: (gx, txL) :: ks)) (by kernel_rfl) o6.drew (fun hHeld => ?_)
  refine wpAnyH_take' (i := 0) (d := 96) rfl rfl (by kernel_rfl) (by kernel_rfl) (by kernel_rfl) (fun _ _ _ h => h) (Or.inl ⟨by rfl, fun w hw => by go_simp; try rfl⟩) hHeld ?_
  try simp only [Act.put, List.setIfInBounds_toArray, List.set_cons_zero, List.set_cons_succ]
  refine wpAnyH_take' (i := 1) (d := 97) rfl rfl (by kernel_rfl) (by kernel_rfl) (by kernel_rfl) (fun _ _ _ h => h) (Or.inl ⟨by rfl, fun w hw => by obtain ⟨c0, cPh, cAp, cGL, x40, x41, x42, x107, x173⟩ := vcells hw (gx := gx) (by simp) hf; go_simp; try rfl⟩) hHeld ?_
  try simp only [Act.put, List.setIfInBounds_toArray, List.set_cons_zero, List.set_cons_succ]
  refine wpAnyH_take' (i := 2) (d := 98) rfl rfl (by kernel_rfl) (by kernel_rfl) (by kernel_rfl) (fun _ _ _ h => h) (Or.inl ⟨by rfl, fun w hw => by go_simp; try rfl⟩) hHeld ?_
  try simp only [Act.put, List.setIfInBounds_toArray, List.set_cons_zero, List.set_cons_succ]
  refine wpAnyH_take' (i := 3) (d := 99) rfl rfl (by kernel_rfl) (by kernel_rfl) (by kernel_rfl) (fun _ _ _ h => h) (Or.inl ⟨by rfl, fun w hw => by go_simp; try rfl⟩) hHeld ?_
  try simp only [Act.put, List.setIfInBounds_toArray, List.set_cons_zero, List.set_cons_succ]
  refine wpAnyH_take' (i := 4) (d := 100) rfl rfl (by kernel_rfl) (by kernel_rfl) (by kernel_rfl) (fun _ _ _ h => h) (Or.inl ⟨by rfl, fun w hw => by go_simp; try rfl⟩) hHeld ?_
  try simp only [Act.put, List.setIfInBounds_toArray, List.set_cons_zero, List.set_cons_succ]
  refine wpAnyH_take' (i := 5) (d := 101) rfl rfl (by kernel_rfl) (by kernel_rfl) (by kernel_rfl) (fun _ _ _ h => h) (Or.inl ⟨by rfl, fun w hw => by go_simp; try rfl⟩) hHeld ?_
  try simp only [Act.put, List.setIfInBounds_toArray, List.set_cons_zero, List.set_cons_succ]
  refine wpAnyH_take' (i := 6) (d := 102) rfl rfl (by kernel_rfl) (by kernel_rfl) (by kernel_rfl) (fun _ _ _ h => h) (Or.inl ⟨by rfl, fun w hw => by obtain ⟨c0, cPh, cAp, cGL, x40, x41, x42, x107, x173⟩ := vcells hw (gx := gx) (by simp) hf; go_simp; try rfl⟩) hHeld ?_
  try simp only [Act.put, List.setIfInBounds_toArray, List.set_cons_zero, List.set_cons_succ]
  refine wpAnyH_take' (i := 7) (d := 103) rfl rfl (by kernel_rfl) (by kernel_rfl) (by kernel_rfl) (fun _ _ _ h => h) (Or.inl ⟨by rfl, fun w hw => by go_simp; try rfl⟩) hHeld ?_
  try simp only [Act.put, List.setIfInBounds_toArray, List.set_cons_zero, List.set_cons_succ]
  refine wpAnyH_take' (i := 8) (d := 95) rfl rfl (by kernel_rfl) (by kernel_rfl) (by kernel_rfl) (fun _ _ _ h => h) (Or.inl ⟨by rfl, fun w hw => by go_simp; try rfl⟩) hHeld ?_
  try simp only [Act.put, List.setIfInBounds_toArray, List.set_cons_zero, List.set_cons_succ]
  refine wpAnyH_done (by kernel_rfl) ?_ _
  have bb7 := bb6.trans ((Turn.drew_below w6).mono bb6.size)
  clear o6 bb6
  generalize w6.drew = w7 at *
  obtain ⟨c0, cPh, cAp, cGL, x40, x41, x42, x107, x173⟩ := vcells hHeld (gx := gx) (by simp) hf
  have ktx := hHeld.blk (g := gx) (cs := txL) (by simp)
  go_upto_region 21 with (first | (refine wpList_load_mid rfl 58 (.tmp 3) rfl gx 0 rfl txL _ ktx.cell u58 rfl Safg.size58 ?_) | (go_at_call 161; refine (fees_tx _).mono ?_; rintro e w8 ⟨rfl, b8⟩) | (refine wpList_alloc_agg rfl 65 rfl _ Safg.zero65 ?_; first | ((fail_if_success (revert hg7)); intro w9 g7 hg7 k7 b9) | (intro w10 g8 hg8 k8 b10; have k7 := k7.below b10 k7.lt)) | (refine wpList_store_self rfl 65 (.tmp 7) _ rfl g7 0 Wd4.zero.cells rfl rfl k7.cell k7.free Safg.size65 (Wd4.one _) ?_) | (refine wpList_store_self rfl 65 (.tmp 8) _ rfl g8 0 Wd4.zero.cells rfl rfl k8.cell k8.free Safg.size65 (Wd4.one _) ?_))
  have s8 := b8.size; have s9 := b9.size; have s10 := b10.size
  have o8 := hHeld.below b8
  have h7w : w7.heap.size ≤ g7 := by omega
  have h8w : w7.heap.size ≤ g8 := by omega
  have B10 : Below w7.heap.size w7 w10 := (b8.trans (b9.mono s8)).trans (b10.mono (by omega))
  have o10' := hHeld.add B10 h7w k7
  have o10 : OS B w0 w10 gm gv f s ((g8, Wd4.zero.cells) :: (g7, Wd4.zero.cells) :: (g5, Wd4.zero.cells) :: (gx, txL) :: ks) := o10'.keep k8 (hHeld.fresh h8w)
  have bb10 := bb7.trans (B10.mono bb7.size)
  clear k7 k8 b8 b9 b10 o8 o10' hHeld bb7 B10 ktx c0 cPh cAp cGL x40 x41 x42 x107 x173 hg7 hg8
  obtain ⟨c0, cPh, cAp, cGL, x40, x41, x42, x107, x173⟩ := vcells o10 (gx := gx) (by simp) hf
  have rB : w10.rangeAt gm 2347 (cellsL (List.replicate 32 0)) := o10.m.range (by rw [cellsL_length, List.length_replicate]; omega) hf.base
  go_upto_region 22 with (first | (refine wpList_load_mid rfl 51 _ rfl gm 2347 rfl _ _ rB Safg.under51 rfl Safg.size51 ?_) | (go_at_call 63; refine (fromBytes_0 _).mono ?_; rintro e w11 ⟨rfl, b11⟩) | (refine wpList_alloc_agg rfl 65 rfl _ Safg.zero65 ?_; intro w12 g9 hg9 k9 b12) | (refine wpList_store_self rfl 65 (.tmp 9) _ rfl g9 0 Wd4.zero.cells rfl rfl k9.cell k9.free Safg.size65 (Wd4.one _) ?_))
  have o12 := (o10.below b11).add b12 hg9 k9
  have bb12 := (bb10.trans (b11.mono bb10.size)).trans (b12.mono (bb10.trans (b11.mono bb10.size)).size)
  clear k9 b11 b12 o10 bb10 rB c0 cPh cAp cGL x40 x41 x42 x107 x173
  obtain ⟨c0, cPh, cAp, cGL, x40, x41, x42, x107, x173⟩ := vcells o12 (gx := gx) (by simp) hf
  have k7 := o12.blk (g := g7) (cs := Wd4.zero.cells) (by simp)
  go_upto_region 23 with (first | (refine wpList_build_at rfl 65 _ rfl [(0, .int .u64 ((200000 : Nat) : Int))] rfl (Wd4.cells ⟨200000, 0, 0, 0⟩) (built65 200000) ?_) | (refine wpList_load_mid rfl 65 (.tmp 7) rfl g7 0 rfl _ _ k7.cell Safg.under65 rfl Safg.size65 ?_) | (go_at_call 162; refine (mulOver_x0 _ ⟨200000, 0, 0, 0⟩ gas_ok).mono ?_; rintro e w13 ⟨rfl, b13⟩) | (refine wpList_alloc_agg rfl 65 rfl _ Safg.zero65 ?_; intro w14 g10 hg10 k10 b14) | (refine wpList_store_self rfl 65 (.tmp 10) _ rfl g10 0 Wd4.zero.cells rfl rfl k10.cell k10.free Safg.size65 (Wd4.one _) ?_))
  have o14 := (o12.below b13).add b14 hg10 k10
  have bb14 := (bb12.trans (b13.mono bb12.size)).trans (b14.mono (bb12.trans (b13.mono bb12.size)).size)
  clear k7 k10 b13 b14 o12 bb12 c0 cPh cAp cGL x40 x41 x42 x107 x173
  have bb15 := bb14.trans ((Turn.drew_below w14).mono bb14.size)
  refine wp_region_held_drew (S := fun w' => OS B w0 w' gm gv f s ((g10, Wd4.zero.cells) :: (g9, Wd4.zero.cells) :: (g8, Wd4.zero.cells) :: (g7, Wd4.zero.cells) :: (g5, Wd4.zero.cells) :: (gx, txL) :: ks)) (by kernel_rfl) o14.drew (fun hHeld => ?_)
  clear o14 bb14
  generalize w14.drew = w15 at *
  apply wpAnyH_to1 (F := fun g12 w' => OS B w0 w' gm gv f s ((g12, Wd4.zero.cells) :: ((g10, Wd4.zero.cells) :: (g9, Wd4.zero.cells) :: (g8, Wd4.zero.cells) :: (g7, Wd4.zero.cells) :: (g5, Wd4.zero.cells) :: (gx, txL) :: ks)) ∧ Below w.heap.size w w')
  case h =>
    refine wpAnyH_take' (i := 0) (d := 125) rfl rfl (by kernel_rfl) (by kernel_rfl) (by kernel_rfl) (fun _ _ _ h => h) (yieldsIf_load_mid (by rfl) 65 _ rfl g10 0 rfl Wd4.zero.cells _ (fun w hw => (hw.blk (g := g10) (cs := Wd4.zero.cells) (by simp)).cell) Safg.under65 rfl Safg.size65) hHeld ?_
    try simp only [Act.put, List.setIfInBounds_toArray, List.set_cons_zero, List.set_cons_succ]
    refine wpAnyH_take' (i := 1) (d := 126) rfl rfl (by kernel_rfl) (by kernel_rfl) (by kernel_rfl) (fun _ _ _ h => h) (Or.inl ⟨by rfl, fun w hw => by go_simp; try rfl⟩) hHeld ?_
    try simp only [Act.put, List.setIfInBounds_toArray, List.set_cons_zero, List.set_cons_succ]
    refine wpAnyH_take' (i := 2) (d := 127) rfl rfl (by kernel_rfl) (by kernel_rfl) (by kernel_rfl) (fun _ _ _ h => h) (yieldsIf_load_mid (by rfl) 51 _ rfl gx 75 rfl (cellsL (List.replicate 32 0)) _ (fun w hw => tx_value (hw.blk (by simp))) Safg.under51 rfl Safg.size51) hHeld ?_
    try simp only [Act.put, List.setIfInBounds_toArray, List.set_cons_zero, List.set_cons_succ]
    refine wpAnyH_two 3 8 (by kernel_rfl) rfl rfl rfl rfl ?_ ?_
    · refine wp_callR Safg.func63 (by kernel_rfl) (by kernel_rfl) (fromBytes_0 w15) rfl rfl ?_
      rintro e w16 ⟨rfl, bw16⟩
      have bb15 := bb15.trans (bw16.mono bb15.size)
      have hHeld := hHeld.below bw16
      clear bw16
      refine ⟨_, rfl, hHeld, ?_⟩
      try simp only [Act.put, List.setIfInBounds_toArray, List.set_cons_zero, List.set_cons_succ]
      refine wpAnyH_two 4 8 (by kernel_rfl) rfl rfl rfl rfl ?_ ?_
      · refine wp_callR Safg.func163 (by kernel_rfl) (by kernel_rfl) (addOver_00 w16) rfl rfl ?_
        rintro e w17 ⟨rfl, bw17⟩
        have bb15 := bb15.trans (bw17.mono bb15.size)
        have hHeld := hHeld.below bw17
        clear bw17
        refine ⟨_, rfl, hHeld, ?_⟩
        try simp only [Act.put, List.setIfInBounds_toArray, List.set_cons_zero, List.set_cons_succ]
        refine wpAnyH_take' (i := 5) (d := 124) rfl rfl (by kernel_rfl) (by kernel_rfl) (by kernel_rfl) (fun _ _ _ h => h) (Or.inl ⟨by rfl, fun w hw => by go_simp; try rfl⟩) hHeld ?_
        try simp only [Act.put, List.setIfInBounds_toArray, List.set_cons_zero, List.set_cons_succ]
        refine wpAnyH_take' (i := 6) (d := 130) rfl rfl (by kernel_rfl) (by kernel_rfl) (by kernel_rfl) (fun _ _ _ h => h) (Or.inl ⟨by rfl, fun w hw => by go_simp; try rfl⟩) hHeld ?_
        try simp only [Act.put, List.setIfInBounds_toArray, List.set_cons_zero, List.set_cons_succ]
        refine wpAnyH_take' (i := 7) (d := 131) rfl rfl (by kernel_rfl) (by kernel_rfl) (by kernel_rfl) (fun _ _ _ h => h) (Or.inl ⟨by rfl, fun w hw => by go_simp; try rfl⟩) hHeld ?_
        try simp only [Act.put, List.setIfInBounds_toArray, List.set_cons_zero, List.set_cons_succ]
        refine wpAnyH_one 8 (by kernel_rfl) rfl rfl ?_
        refine wp_allocR 65 rfl _ Safg.zero65 ?_
        intro w18 g12 hg12 k12 bw18
        have f12 := hHeld.fresh hg12
        have bb15 := bb15.trans (bw18.mono bb15.size)
        have hHeld := hHeld.below bw18
        clear bw18
        refine ⟨hHeld, ?_⟩
        try simp only [Act.put, List.setIfInBounds_toArray, List.set_cons_zero, List.set_cons_succ]
        refine wpAnyH_one 9 (by kernel_rfl) rfl rfl ?_
        refine wp_store_self 65 _ _ rfl g12 0 Wd4.zero.cells rfl rfl k12.cell k12.free Safg.size65 (Wd4.one _) ?_
        refine ⟨hHeld, ?_⟩
        try simp only [Act.put, List.setIfInBounds_toArray, List.set_cons_zero, List.set_cons_succ]
        refine wpAnyH_take' (i := 10) (d := 13) rfl rfl (by kernel_rfl) (by kernel_rfl) (by kernel_rfl) (fun _ _ _ h => h) (Or.inl ⟨by rfl, fun w hw => by go_simp; try rfl⟩) hHeld ?_
        try simp only [Act.put, List.setIfInBounds_toArray, List.set_cons_zero, List.set_cons_succ]
        refine wpAnyH_done (by kernel_rfl) ?_ _
        have o16 : OS B w0 w18 gm gv f s ((g12, Wd4.zero.cells) :: ((g10, Wd4.zero.cells) :: (g9, Wd4.zero.cells) :: (g8, Wd4.zero.cells) :: (g7, Wd4.zero.cells) :: (g5, Wd4.zero.cells) :: (gx, txL) :: ks)) := hHeld.keep k12 f12
        clear hHeld k12
        exact NormQ.mk ⟨g12, rfl, o16, bb15⟩
      · refine wp_allocR 65 rfl _ Safg.zero65 ?_
        intro w17 g12 hg12 k12 bw17
        have f12 := hHeld.fresh hg12
        have bb15 := bb15.trans (bw17.mono bb15.size)
        have hHeld := hHeld.below bw17
        clear bw17
        refine ⟨hHeld, ?_⟩
        try simp only [Act.put, List.setIfInBounds_toArray, List.set_cons_zero, List.set_cons_succ]
        refine wpAnyH_one 4 (by kernel_rfl) rfl rfl ?_
        refine wp_callR Safg.func163 (by kernel_rfl) (by kernel_rfl) (addOver_00 w17) rfl rfl ?_
        rintro e w18 ⟨rfl, bw18⟩
        have k12 := k12.below bw18 k12.lt
        have bb15 := bb15.trans (bw18.mono bb15.size)
        have hHeld := hHeld.below bw18
        clear bw18
        refine ⟨_, rfl, hHeld, ?_⟩
        try simp only [Act.put, List.setIfInBounds_toArray, List.set_cons_zero, List.set_cons_succ]
        refine wpAnyH_take' (i := 5) (d := 124) rfl rfl (by kernel_rfl) (by kernel_rfl) (by kernel_rfl) (fun _ _ _ h => h) (Or.inl ⟨by rfl, fun w hw => by go_simp; try rfl⟩) hHeld ?_
        try simp only [Act.put, List.setIfInBounds_toArray, List.set_cons_zero, List.set_cons_succ]
        refine wpAnyH_take' (i := 6) (d := 130) rfl rfl (by kernel_rfl) (by kernel_rfl) (by kernel_rfl) (fun _ _ _ h => h) (Or.inl ⟨by rfl, fun w hw => by go_simp; try rfl⟩) hHeld ?_
        try simp only [Act.put, List.setIfInBounds_toArray, List.set_cons_zero, List.set_cons_succ]
        refine wpAnyH_take' (i := 7) (d := 131) rfl rfl (by kernel_rfl) (by kernel_rfl) (by kernel_rfl) (fun _ _ _ h => h) (Or.inl ⟨by rfl, fun w hw => by go_simp; try rfl⟩) hHeld ?_
        try simp only [Act.put, List.setIfInBounds_toArray, List.set_cons_zero, List.set_cons_succ]
        refine wpAnyH_one 9 (by kernel_rfl) rfl rfl ?_
        refine wp_store_self 65 _ _ rfl g12 0 Wd4.zero.cells rfl rfl k12.cell k12.free Safg.size65 (Wd4.one _) ?_
        refine ⟨hHeld, ?_⟩
        try simp only [Act.put, List.setIfInBounds_toArray, List.set_cons_zero, List.set_cons_succ]
        refine wpAnyH_take' (i := 10) (d := 13) rfl rfl (by kernel_rfl) (by kernel_rfl) (by kernel_rfl) (fun _ _ _ h => h) (Or.inl ⟨by rfl, fun w hw => by go_simp; try rfl⟩) hHeld ?_
        try simp only [Act.put, List.setIfInBounds_toArray, List.set_cons_zero, List.set_cons_succ]
        refine wpAnyH_done (by kernel_rfl) ?_ _
        have o16 : OS B w0 w18 gm gv f s ((g12, Wd4.zero.cells) :: ((g10, Wd4.zero.cells) :: (g9, Wd4.zero.cells) :: (g8, Wd4.zero.cells) :: (g7, Wd4.zero.cells) :: (g5, Wd4.zero.cells) :: (gx, txL) :: ks)) := hHeld.keep k12 f12
        clear hHeld k12
        exact NormQ.mk ⟨g12, rfl, o16, bb15⟩
    · refine wp_allocR 65 rfl _ Safg.zero65 ?_
      intro w16 g12 hg12 k12 bw16
      have f12 := hHeld.fresh hg12
      have bb15 := bb15.trans (bw16.mono bb15.size)
      have hHeld := hHeld.below bw16
      clear bw16
      refine ⟨hHeld, ?_⟩
      try simp only [Act.put, List.setIfInBounds_toArray, List.set_cons_zero, List.set_cons_succ]
      refine wpAnyH_one 3 (by kernel_rfl) rfl rfl ?_
      refine wp_callR Safg.func63 (by kernel_rfl) (by kernel_rfl) (fromBytes_0 w16) rfl rfl ?_
      rintro e w17 ⟨rfl, bw17⟩
      have k12 := k12.below bw17 k12.lt
      have bb15 := bb15.trans (bw17.mono bb15.size)
      have hHeld := hHeld.below bw17
      clear bw17
      refine ⟨_, rfl, hHeld, ?_⟩
      try simp only [Act.put, List.setIfInBounds_toArray, List.set_cons_zero, List.set_cons_succ]
      refine wpAnyH_one 4 (by kernel_rfl) rfl rfl ?_
      refine wp_callR Safg.func163 (by kernel_rfl) (by kernel_rfl) (addOver_00 w17) rfl rfl ?_
      rintro e w18 ⟨rfl, bw18⟩
      have k12 := k12.below bw18 k12.lt
      have bb15 := bb15.trans (bw18.mono bb15.size)
      have hHeld := hHeld.below bw18
      clear bw18
      refine ⟨_, rfl, hHeld, ?_⟩
      try simp only [Act.put, List.setIfInBounds_toArray, List.set_cons_zero, List.set_cons_succ]
      refine wpAnyH_take' (i := 5) (d := 124) rfl rfl (by kernel_rfl) (by kernel_rfl) (by kernel_rfl) (fun _ _ _ h => h) (Or.inl ⟨by rfl, fun w hw => by go_simp; try rfl⟩) hHeld ?_
      try simp only [Act.put, List.setIfInBounds_toArray, List.set_cons_zero, List.set_cons_succ]
      refine wpAnyH_take' (i := 6) (d := 130) rfl rfl (by kernel_rfl) (by kernel_rfl) (by kernel_rfl) (fun _ _ _ h => h) (Or.inl ⟨by rfl, fun w hw => by go_simp; try rfl⟩) hHeld ?_
      try simp only [Act.put, List.setIfInBounds_toArray, List.set_cons_zero, List.set_cons_succ]
      refine wpAnyH_take' (i := 7) (d := 131) rfl rfl (by kernel_rfl) (by kernel_rfl) (by kernel_rfl) (fun _ _ _ h => h) (Or.inl ⟨by rfl, fun w hw => by go_simp; try rfl⟩) hHeld ?_
      try simp only [Act.put, List.setIfInBounds_toArray, List.set_cons_zero, List.set_cons_succ]
      refine wpAnyH_one 9 (by kernel_rfl) rfl rfl ?_
      refine wp_store_self 65 _ _ rfl g12 0 Wd4.zero.cells rfl rfl k12.cell k12.free Safg.size65 (Wd4.one _) ?_
      refine ⟨hHeld, ?_⟩
      try simp only [Act.put, List.setIfInBounds_toArray, List.set_cons_zero, List.set_cons_succ]
      refine wpAnyH_take' (i := 10) (d := 13) rfl rfl (by kernel_rfl) (by kernel_rfl) (by kernel_rfl) (fun _ _ _ h => h) (Or.inl ⟨by rfl, fun w hw => by go_simp; try rfl⟩) hHeld ?_
      try simp only [Act.put, List.setIfInBounds_toArray, List.set_cons_zero, List.set_cons_succ]
      refine wpAnyH_done (by kernel_rfl) ?_ _
      have o16 : OS B w0 w18 gm gv f s ((g12, Wd4.zero.cells) :: ((g10, Wd4.zero.cells) :: (g9, Wd4.zero.cells) :: (g8, Wd4.zero.cells) :: (g7, Wd4.zero.cells) :: (g5, Wd4.zero.cells) :: (gx, txL) :: ks)) := hHeld.keep k12 f12
      clear hHeld k12
      exact NormQ.mk ⟨g12, rfl, o16, bb15⟩
  case hn =>
    intro g12 w18 ⟨o16, bb15⟩
    go_upto_region 24 with fail
    refine wp_region_held_drew (S := fun w' => OS B w0 w' gm gv f s ((g12, Wd4.zero.cells) :: ((g10, Wd4.zero.cells) :: (g9, Wd4.zero.cells) :: (g8, Wd4.zero.cells) :: (g7, Wd4.zero.cells) :: (g5, Wd4.zero.cells) :: (gx, txL) :: ks))) (by kernel_rfl) o16.drew (fun hHeld => ?_)
    refine wpAnyH_take' (i := 0) (d := 133) rfl rfl (by kernel_rfl) (by kernel_rfl) (by kernel_rfl) (fun _ _ _ h => h) (Or.inl ⟨by rfl, fun w hw => by go_simp; try rfl⟩) hHeld ?_
    try simp only [Act.put, List.setIfInBounds_toArray, List.set_cons_zero, List.set_cons_succ]
    refine wpAnyH_take' (i := 1) (d := 134) rfl rfl (by kernel_rfl) (by kernel_rfl) (by kernel_rfl) (fun _ _ _ h => h) (Or.inl ⟨by rfl, fun w hw => by go_simp; try rfl⟩) hHeld ?_
    try simp only [Act.put, List.setIfInBounds_toArray, List.set_cons_zero, List.set_cons_succ]
    refine wpAnyH_take' (i := 2) (d := 135) rfl rfl (by kernel_rfl) (by kernel_rfl) (by kernel_rfl) (fun _ _ _ h => h) (Or.inl ⟨by rfl, fun w hw => by go_simp; try rfl⟩) hHeld ?_
    try simp only [Act.put, List.setIfInBounds_toArray, List.set_cons_zero, List.set_cons_succ]
    refine wpAnyH_take' (i := 3) (d := 136) rfl rfl (by kernel_rfl) (by kernel_rfl) (by kernel_rfl) (fun _ _ _ h => h) (Or.inl ⟨by rfl, fun w hw => by go_simp; try rfl⟩) hHeld ?_
    try simp only [Act.put, List.setIfInBounds_toArray, List.set_cons_zero, List.set_cons_succ]
    refine wpAnyH_take' (i := 4) (d := 137) rfl rfl (by kernel_rfl) (by kernel_rfl) (by kernel_rfl) (fun _ _ _ h => h) (Or.inl ⟨by rfl, fun w hw => by go_simp; try rfl⟩) hHeld ?_
    try simp only [Act.put, List.setIfInBounds_toArray, List.set_cons_zero, List.set_cons_succ]
    refine wpAnyH_take' (i := 5) (d := 138) rfl rfl (by kernel_rfl) (by kernel_rfl) (by kernel_rfl) (fun _ _ _ h => h) (Or.inl ⟨by rfl, fun w hw => by go_simp; try rfl⟩) hHeld ?_
    try simp only [Act.put, List.setIfInBounds_toArray, List.set_cons_zero, List.set_cons_succ]
    refine wpAnyH_take' (i := 6) (d := 139) rfl rfl (by kernel_rfl) (by kernel_rfl) (by kernel_rfl) (fun _ _ _ h => h) (Or.inl ⟨by rfl, fun w hw => by go_simp; try rfl⟩) hHeld ?_
    try simp only [Act.put, List.setIfInBounds_toArray, List.set_cons_zero, List.set_cons_succ]
    refine wpAnyH_take' (i := 7) (d := 140) rfl rfl (by kernel_rfl) (by kernel_rfl) (by kernel_rfl) (fun _ _ _ h => h) (Or.inl ⟨by rfl, fun w hw => by go_simp; try rfl⟩) hHeld ?_
    try simp only [Act.put, List.setIfInBounds_toArray, List.set_cons_zero, List.set_cons_succ]
    refine wpAnyH_take' (i := 8) (d := 141) rfl rfl (by kernel_rfl) (by kernel_rfl) (by kernel_rfl) (fun _ _ _ h => h) (Or.inl ⟨by rfl, fun w hw => by obtain ⟨c0, cPh, cAp, cGL, x40, x41, x42, x107, x173⟩ := vcells hw (gx := gx) (by simp) hf; go_simp; try rfl⟩) hHeld ?_
    try simp only [Act.put, List.setIfInBounds_toArray, List.set_cons_zero, List.set_cons_succ]
    refine wpAnyH_take' (i := 9) (d := 142) rfl rfl (by kernel_rfl) (by kernel_rfl) (by kernel_rfl) (fun _ _ _ h => h) (Or.inl ⟨by rfl, fun w hw => by go_simp; try rfl⟩) hHeld ?_
    try simp only [Act.put, List.setIfInBounds_toArray, List.set_cons_zero, List.set_cons_succ]
    refine wpAnyH_take' (i := 10) (d := 143) rfl rfl (by kernel_rfl) (by kernel_rfl) (by kernel_rfl) (fun _ _ _ h => h) (yieldsIf_load_mid (by rfl) 33 _ rfl gx 0 rfl (cellsL (adr 240)) _ (fun w hw => tx_from (hw.blk (by simp))) Safg.under33 rfl Safg.size33) hHeld ?_
    try simp only [Act.put, List.setIfInBounds_toArray, List.set_cons_zero, List.set_cons_succ]
    refine wpAnyH_take' (i := 12) (d := 145) rfl rfl (by kernel_rfl) (by kernel_rfl) (by kernel_rfl) (fun _ _ _ h => h) (yieldsIf_load_mid (by rfl) 65 _ rfl g12 0 rfl Wd4.zero.cells _ (fun w hw => (hw.blk (g := g12) (cs := Wd4.zero.cells) (by simp)).cell) Safg.under65 rfl Safg.size65) hHeld ?_
    try simp only [Act.put, List.setIfInBounds_toArray, List.set_cons_zero, List.set_cons_succ]
    refine wpAnyH_oneG 11 (by kernel_rfl) rfl (by rfl) ?_
    refine wp_callR Safg.func60 (by kernel_rfl) (by kernel_rfl) (HB w18.drew hHeld.v) rfl rfl ?_
    rintro e w19 ⟨rfl, bw19⟩
    have o19 := hHeld.below bw19
    refine ⟨_, rfl, o19, ?_⟩
    try simp only [Act.put, List.setIfInBounds_toArray, List.set_cons_zero, List.set_cons_succ]
    refine wpAnyH_oneG 13 (by kernel_rfl) rfl (by rfl) ?_
    refine wp_callR Safg.func164 (by kernel_rfl) (by kernel_rfl) (uLt_x0 w19 x.bal hbal) rfl rfl ?_
    rintro e w20 ⟨rfl, bw20⟩
    have o20 := o19.below bw20
    refine ⟨_, rfl, o20, ?_⟩
    try simp only [Act.put, List.setIfInBounds_toArray, List.set_cons_zero, List.set_cons_succ]
    refine wpAnyH_take' (i := 14) (d := 147) rfl rfl (by kernel_rfl) (by kernel_rfl) (by kernel_rfl) (fun _ _ _ h => h) (Or.inl ⟨by rfl, fun w hw => by go_simp; try rfl⟩) o20 ?_
    try simp only [Act.put, List.setIfInBounds_toArray, List.set_cons_zero, List.set_cons_succ]
    refine wpAnyH_take' (i := 15) (d := 132) rfl rfl (by kernel_rfl) (by kernel_rfl) (by kernel_rfl) (fun _ _ _ h => h) (Or.inl ⟨by rfl, fun w hw => by go_simp; try rfl⟩) o20 ?_
    try simp only [Act.put, List.setIfInBounds_toArray, List.set_cons_zero, List.set_cons_succ]
    refine wpAnyH_done (by kernel_rfl) ?_ _
    have bb20 := ((bb15.trans ((Turn.drew_below w18).mono bb15.size)).trans (bw19.mono bb15.size)).trans (bw20.mono (Nat.le_trans bb15.size bw19.size))
    clear hHeld o16 o19 bb15 bw19 bw20
    have k5 := o20.blk (g := g5) (cs := Wd4.zero.cells) (by simp)
    have k7 := o20.blk (g := g7) (cs := Wd4.zero.cells) (by simp)
    have k8 := o20.blk (g := g8) (cs := Wd4.zero.cells) (by simp)
    have k9 := o20.blk (g := g9) (cs := Wd4.zero.cells) (by simp)
    go_upto_region 28 with (first | (refine wpList_load_mid rfl 65 (.tmp 8) rfl g8 0 rfl _ _ k8.cell Safg.under65 rfl Safg.size65 ?_) | (refine wpList_load_mid rfl 65 (.tmp 7) rfl g7 0 rfl _ _ k7.cell Safg.under65 rfl Safg.size65 ?_) | (go_at_call 165; refine (uGt_00 _).mono ?_; rintro e w21 ⟨rfl, b21⟩) | (refine wpList_store_self rfl 65 (.tmp 5) _ rfl g5 0 Wd4.zero.cells rfl rfl (k5.below b21 k5.lt).cell (k5.below b21 k5.lt).free Safg.size65 (Wd4.one _) ?_))
    have k5 := k5.below b21 k5.lt
    have k7 := k7.below b21 k7.lt
    have k8 := k8.below b21 k8.lt
    have k9 := k9.below b21 k9.lt
    have bb21 := bb20.trans (b21.mono bb20.size)
    clear b21
    go_upto_region 30 with (first | (refine wpList_load_mid rfl 65 (.tmp 7) rfl g7 0 rfl _ _ k7.cell Safg.under65 rfl Safg.size65 ?_) | (refine wpList_load_mid rfl 65 (.tmp 9) rfl g9 0 rfl _ _ k9.cell Safg.under65 rfl Safg.size65 ?_) | (go_at_call 164; refine ((fun w => uLt_x0 w _ zero_ok) _).mono ?_; rintro e w22 ⟨rfl, b22⟩) | (refine wpList_store_self rfl 65 (.tmp 5) _ rfl g5 0 Wd4.zero.cells rfl rfl (k5.below b22 k5.lt).cell (k5.below b22 k5.lt).free Safg.size65 (Wd4.one _) ?_))
    have k5 := k5.below b22 k5.lt
    have k7 := k7.below b22 k7.lt
    have k8 := k8.below b22 k8.lt
    have k9 := k9.below b22 k9.lt
    have bb22 := bb21.trans (b22.mono bb21.size)
    clear b22
    go_upto_region 31 with (first | (refine wpList_load_mid rfl 65 (.tmp 7) rfl g7 0 rfl _ _ k7.cell Safg.under65 rfl Safg.size65 ?_) | (refine wpList_load_mid rfl 65 (.tmp 9) rfl g9 0 rfl _ _ k9.cell Safg.under65 rfl Safg.size65 ?_) | (go_at_call 59; refine (uSub_00 _).mono ?_; rintro e w23 ⟨rfl, b23⟩) | (refine wpList_store_self rfl 65 (.tmp 5) _ rfl g5 0 Wd4.zero.cells rfl rfl (k5.below b23 k5.lt).cell (k5.below b23 k5.lt).free Safg.size65 (Wd4.one _) ?_))
    have k5 := k5.below b23 k5.lt
    have k7 := k7.below b23 k7.lt
    have k8 := k8.below b23 k8.lt
    have k9 := k9.below b23 k9.lt
    have bb23 := bb22.trans (b23.mono bb22.size)
    clear b23
    go_upto_region 33 with (first | (refine wpList_load_mid rfl 65 (.tmp 8) rfl g8 0 rfl _ _ k8.cell Safg.under65 rfl Safg.size65 ?_) | (refine wpList_load_mid rfl 65 (.tmp 5) rfl g5 0 rfl _ _ k5.cell Safg.under65 rfl Safg.size65 ?_) | (go_at_call 164; refine ((fun w => uLt_x0 w _ zero_ok) _).mono ?_; rintro e w24 ⟨rfl, b24⟩) | (refine wpList_store_self rfl 65 (.tmp 5) _ rfl g5 0 Wd4.zero.cells rfl rfl (k5.below b24 k5.lt).cell (k5.below b24 k5.lt).free Safg.size65 (Wd4.one _) ?_))
    have k5 := k5.below b24 k5.lt
    have k7 := k7.below b24 k7.lt
    have k8 := k8.below b24 k8.lt
    have k9 := k9.below b24 k9.lt
    have bb24 := bb23.trans (b24.mono bb23.size)
    clear b24
    go_wp2_with (first | (refine wpList_load_mid rfl 65 (.tmp 9) rfl g9 0 rfl _ _ k9.cell Safg.under65 rfl Safg.size65 ?_) | (refine wpList_load_mid rfl 65 (.tmp 5) rfl g5 0 rfl _ _ k5.cell Safg.under65 rfl Safg.size65 ?_) | (go_at_call 166; refine (uAdd_00 _).mono ?_; rintro e w25 ⟨rfl, b25⟩) | (refine wpList_store_self rfl 65 (.tmp 5) _ rfl g5 0 Wd4.zero.cells rfl rfl (k5.below b25 k5.lt).cell (k5.below b25 k5.lt).free Safg.size65 (Wd4.one _) ?_))
    have k5 := k5.below b25 k5.lt
    refine bodyPost_ret (results_tmp_cell Safg.results51 _ w25 (.int .u8 0) g5 Wd4.zero.cells _ rfl rfl k5 Safg.under65 rfl Safg.size65) rfl ⟨rfl, bb24.trans (b25.mono bb24.size)⟩
end Go.Proofs.YgcsafGreat
