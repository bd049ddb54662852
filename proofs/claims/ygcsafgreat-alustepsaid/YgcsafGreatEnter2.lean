/-
  mach.Enter (67) of the law's frame.
-/
import Derived.Test.YgcsafGreatEnter1
import Derived.Test.YgcsafGreatStep1
namespace Go.Proofs.YgcsafGreat
open Go.RowKit
set_option linter.unusedVariables false
set_option linter.unusedSimpArgs false

/-- The law's frame. -/
def frL (gas : Nat) (cv : Value) : List Value := [.int .u8 0, .int .u8 0, .int .u8 0, .bool false, .int .u16 0, .int .u16 0, .int .u16 0, .int .u64 (gas : Int), .int .i32 0] ++ (cellsL (adr 1) ++ (cellsL (adr 240) ++ (Wd4.zero.cells ++ ([cv, .slice none 0 0] ++ (List.replicate 8 (.int .u64 0) ++ [.int .u32 0, .int .u32 0])))))
theorem frL_length (gas : Nat) (cv : Value) : (frL gas cv).length = 65 := rfl
set_option maxRecDepth 100000 in
theorem Safg.size70 : (Safg.prog.info? 70).map (·.size) = some 65 := by kernel_rfl
theorem frL_one (gas : Nat) (cv : Value) (h : cv.oneCell' = true) : ∀ v ∈ frL gas cv, v.oneCell' = true := by
  intro v hv
  simp only [frL, List.mem_append, List.mem_cons, List.not_mem_nil, or_false] at hv
  rcases hv with (rfl | rfl | rfl | rfl | rfl | rfl | rfl | rfl | rfl) | h1 | h1 | h1 | (rfl | rfl) | h1 | rfl | rfl
  all_goals first | rfl | exact h | exact cellsL_one _ v h1 | exact Wd4.one _ v h1 | exact zeros_one 8 v h1
theorem frL_self (gas : Nat) (cv : Value) {i : Nat} {v : Value} (h : (cellsL (adr 1))[i]? = some v) : (frL gas cv)[9 + i]? = some v := by
  rw [Nat.add_comm]
  show (cellsL (adr 1) ++ _)[i]? = _
  rw [List.getElem?_append_left (List.getElem?_eq_some_iff.1 h).1]
  exact h
theorem frL_caller (gas : Nat) (cv : Value) {i : Nat} {v : Value} (h : (cellsL (adr 240))[i]? = some v) : (frL gas cv)[29 + i]? = some v := by
  rw [Nat.add_comm]
  show (cellsL (adr 240) ++ _)[i]? = _
  rw [List.getElem?_append_left (List.getElem?_eq_some_iff.1 h).1]
  exact h
theorem frL_value (gas : Nat) (cv : Value) {i : Nat} {v : Value} (h : Wd4.zero.cells[i]? = some v) : (frL gas cv)[49 + i]? = some v := by
  rw [Nat.add_comm]
  show (Wd4.zero.cells ++ _)[i]? = _
  rw [List.getElem?_append_left (List.getElem?_eq_some_iff.1 h).1]
  exact h
theorem frL_dests (gas : Nat) (cv : Value) {i : Nat} {v : Value} (h : (List.replicate 8 (Value.int .u64 0))[i]? = some v) : (frL gas cv)[55 + i]? = some v := by
  rw [Nat.add_comm]
  show (List.replicate 8 (Value.int .u64 0) ++ _)[i]? = _
  rw [List.getElem?_append_left (List.getElem?_eq_some_iff.1 h).1]
  exact h
/-- The machine's cells once its first frame stands. -/
def fRun (f : Nat → Value) (gas : Nat) (cv : Value) : Nat → Value := upd (upd (updL (upd f 10 (.int .u8 1)) 1803 (frL gas cv)) 2258 (.int .i8 0)) 2404 (.int .u8 1)
theorem fRun_fr (f : Nat → Value) (gas : Nat) (cv : Value) {i : Nat} {v : Value} (h : (frL gas cv)[i]? = some v) : fRun f gas cv (1803 + i) = v := by
  have hi := (List.getElem?_eq_some_iff.1 h).1
  rw [frL_length] at hi
  rw [fRun, upd_ne _ _ (by omega), upd_ne _ _ (by omega), updL_in _ _ h]
theorem fRun_out (f : Nat → Value) (gas : Nat) (cv : Value) {o : Nat} (h1 : o < 1803 ∨ 1868 ≤ o) (h2 : o ≠ 2258) (h3 : o ≠ 2404) (h4 : o ≠ 10) : fRun f gas cv o = f o := by
  rw [fRun, upd_ne _ _ h3, upd_ne _ _ h2, updL_out _ _ (by rw [frL_length]; omega), upd_ne _ _ h4]
theorem mfStart {f : Nat → Value} {gv : Nat} (gas : Nat) (cv : Value) (h : OF f gv) : MF (fRun f gas cv) gv 0 0 gas (fun _ => Wd4.zero) cv (adr 1) (adr 240) := by
  refine ⟨(fRun_out _ _ _ (by omega) (by omega) (by omega) (by omega)).trans h.s, (fRun_out _ _ _ (by omega) (by omega) (by omega) (by omega)).trans h.buf, (fRun_out _ _ _ (by omega) (by omega) (by omega) (by omega)).trans h.base0, (fRun_out _ _ _ (by omega) (by omega) (by omega) (by omega)).trans h.base1, ?_, fun i hi => ?_, fun j hj => absurd hj (by omega), fRun_fr (i := 2) _ _ _ rfl, fRun_fr (i := 3) _ _ _ rfl, fRun_fr (i := 4) _ _ _ rfl, fRun_fr (i := 5) _ _ _ rfl, fRun_fr (i := 6) _ _ _ rfl, fRun_fr (i := 7) _ _ _ rfl, fun i v hv => ?_, fun i v hv => ?_, fRun_fr (i := 53) _ _ _ rfl, ?_, (fRun_out _ _ _ (by omega) (by omega) (by omega) (by omega)).trans h.ret, ?_, rfl, rfl, adr_dig (by omega), adr_dig (by omega), fun j hj => absurd hj (by omega)⟩
  · rw [fRun, upd_ne _ _ (by omega), upd_ne _ _ (by omega), updL_out _ _ (by omega), upd_same]
  · rw [fRun_out _ _ _ (by omega) (by omega) (by omega) (by omega)]; exact h.stack i hi
  · have := fRun_fr f gas cv (frL_self gas cv hv)
    rwa [← Nat.add_assoc] at this
  · have := fRun_fr f gas cv (frL_caller gas cv hv)
    rwa [← Nat.add_assoc] at this
  · rw [fRun, upd_ne _ _ (by omega), upd_same]
  · rw [fRun, upd_same]

set_option maxRecDepth 100000 in
set_option maxHeartbeats 8000000 in
theorem enter_any (B : Nat) (w0 w : World) (gm gv gk gas o : Nat) (f : Nat → Value) (s : Vst) (ks : List (Nat × List Value)) (C : List Nat) (h : OS B w0 w gm gv f s ((gk, cellsL C) :: ks)) (hnm : s.nm = 0) (hC : Code4 C o) (dC : D.Dig C) :
    Calls Safg.prog 67 #[.pointer (some ⟨gm, 0, none⟩), .agg (frL gas (.slice (some ⟨gk, 0, none⟩) 100 100)).toArray] w fun e w' => e = .returned (.bool true) ∧ Run w' gm gv gk 0 0 gas (fun _ => Wd4.zero) C (adr 1) (adr 240) ∧ Below B w0 w' := by
  obtain ⟨cv, hcv⟩ : ∃ v : Value, .slice (some ⟨gk, 0, none⟩) 100 100 = v := ⟨_, rfl⟩
  have HCV : Hid (Value.slice (some ⟨gk, 0, none⟩) 100 100 = cv) := hcv
  obtain ⟨fs, u70⟩ : ∃ fs, Safg.prog.underlying 70 = some (.struct fs) := ⟨_, rfl⟩
  have ownOf : ∀ {w : World}, Blk w gk (cellsL C) → Own w gk C := fun {w} k => ⟨k.lt, fun j hj => k.get (by rw [cellsL, List.getElem?_map, List.getD_eq_getElem?_getD, List.getElem?_eq_getElem hj]; rfl), k.free⟩
  have HS := fun (w : World) (k : Blk w gk (cellsL C)) => scan_any w gk o C (ownOf k) hC
  rw [hcv]
  clear hcv
  go_enter Safg.func67, Safg.ntmps67
  go_upto_region 1 with (refine wpList_box_agg rfl 70 (.tmp 1) rfl (frL gas cv) rfl ?_; intro w1 g3 hg3 k3 b1)
  have o1 := h.add b1 hg3 k3
  clear h b1 k3
  have c0 := o1.m.cell 0 (by omega)
  have ct := o1.m.cell 2258 (by omega)
  rw [o1.o.s] at c0
  rw [o1.o.top] at ct
  have k3 := o1.blk (g := g3) (cs := frL gas cv) (by simp)
  have e1 : w1.setCell ⟨g3, 1, none⟩ (.int .u8 0) = w1 := setCell_self (k3.get (j := 1) rfl)
  have e5 : w1.setCell ⟨g3, 5, none⟩ (.int .u16 0) = w1 := setCell_self (k3.get (j := 5) rfl)
  have d1 : w1.cell? ⟨g3, 1, none⟩ = some (.int .u8 0) := k3.get rfl
  have d5 : w1.cell? ⟨g3, 5, none⟩ = some (.int .u16 0) := k3.get rfl
  have d53 : w1.cell? ⟨g3, 53, none⟩ = some cv := k3.get rfl
  have z1 := k3.free 1
  have z5 := k3.free 5
  rw [← HCV.out] at d53
  go_upto_region 7 with fail
  go_upto_region 8 with (first | (go_at_call 179; refine (HS _ (o1.blk (by simp))).mono ?_; rintro e w2 ⟨rfl, b2⟩; have k3' := k3.below b2 k3.lt) | (refine wpList_store_self rfl 68 _ _ rfl g3 55 (List.replicate 8 (Value.int .u64 0)) rfl rfl (fun j v hv => k3'.get (frL_dests gas cv hv)) k3'.free Safg.size68 (zeros_one 8) ?_))
  have o2 := o1.below b2
  clear o1 c0 ct k3 k3' e1 e5 d1 d5 d53 z1 z5 b2
  have c0 := o2.m.cell 0 (by omega)
  rw [o2.o.s] at c0
  have HN := snap_any B w2 gv s o2.v hnm
  go_upto_region 9 with (go_at_call 180; refine HN.mono ?_; rintro e w3 ⟨rfl, v3, t3⟩; have o3 := o2.vault (s2 := { s with nm := 1 }) (t3.mono (fun i hi => by obtain rfl : i = gv := (by simpa using hi); exact List.mem_cons_self)) v3 (.inl rfl) (.inl rfl); have k3 := o3.blk (g := g3) (cs := frL gas cv) (by simp); have d8 : w3.cell? ⟨g3, 8, none⟩ = some (.int .i32 0) := k3.get rfl; have z8 := k3.free 8; have e8 : w3.setCell ⟨g3, 8, none⟩ (.int .i32 0) = w3 := setCell_self d8)
  clear o2 c0 HN v3 t3 e8 z8
  have HM := memEnter_any w3 gm f o3.m o3.o.mtop o3.o.base0 o3.o.base1
  go_upto_region 10 with (go_at_call 181; refine HM.mono ?_; rintro e w4 ⟨rfl, m4, w3', sm, n4⟩)
  have o3' := o3.same sm
  clear HM d8 k3 o3
  have k3 := o3'.blk (g := g3) (cs := frL gas cv) (by simp)
  have hg3m : g3 ≠ gm := (o3'.ks (g3, frL gas cv) (by simp)).2.2
  have k4 := OS.blk_turn k3 (Turn.of_only n4) (by simpa using hg3m)
  refine wp_region_held_drew (S := fun w' => Blk w' g3 (frL gas cv)) (by kernel_rfl) ((Same.drew w4).blk k4) (fun hHeld => ?_)
  refine wpAnyH_take' (i := 0) (d := 54) rfl rfl (by kernel_rfl) (by kernel_rfl) (by kernel_rfl) (fun _ _ _ h => h) (Or.inl ⟨by rfl, fun w hw => by go_simp; try rfl⟩) hHeld ?_
  try simp only [Act.put, List.setIfInBounds_toArray, List.set_cons_zero, List.set_cons_succ]
  refine wpAnyH_take' (i := 1) (d := 55) rfl rfl (by kernel_rfl) (by kernel_rfl) (by kernel_rfl) (fun _ _ _ h => h) (Or.inl ⟨by rfl, fun w hw => by go_simp; try rfl⟩) hHeld ?_
  try simp only [Act.put, List.setIfInBounds_toArray, List.set_cons_zero, List.set_cons_succ]
  refine wpAnyH_take' (i := 2) (d := 56) rfl rfl (by kernel_rfl) (by kernel_rfl) (by kernel_rfl) (fun _ _ _ h => h) (yieldsIf_load_mid (by rfl) 70 _ rfl g3 0 rfl (frL gas cv) _ (fun w hw => hw.cell) u70 rfl Safg.size70) hHeld ?_
  try simp only [Act.put, List.setIfInBounds_toArray, List.set_cons_zero, List.set_cons_succ]
  refine wpAnyH_take' (i := 3) (d := 57) rfl rfl (by kernel_rfl) (by kernel_rfl) (by kernel_rfl) (fun _ _ _ h => h) (Or.inl ⟨by rfl, fun w hw => by go_simp; try rfl⟩) hHeld ?_
  try simp only [Act.put, List.setIfInBounds_toArray, List.set_cons_zero, List.set_cons_succ]
  refine wpAnyH_take' (i := 4) (d := 58) rfl rfl (by kernel_rfl) (by kernel_rfl) (by kernel_rfl) (fun _ _ _ h => h) (Or.inl ⟨by rfl, fun w hw => by go_simp; try rfl⟩) hHeld ?_
  try simp only [Act.put, List.setIfInBounds_toArray, List.set_cons_zero, List.set_cons_succ]
  refine wpAnyH_take' (i := 5) (d := 59) (v := .pointer (some ⟨gm, 1803, none⟩)) rfl rfl (by kernel_rfl) (by kernel_rfl) (by kernel_rfl) (fun _ _ _ h => h) (Or.inl ⟨by rfl, fun w hw => by go_simp; try rfl⟩) hHeld ?_
  try simp only [Act.put, List.setIfInBounds_toArray, List.set_cons_zero, List.set_cons_succ]
  have m5 := m4.drew
  have s5 := Same.drew w4
  have hone : cv.oneCell' = true := by rw [← HCV.out]; rfl
  refine wpAnyH_one 6 (by kernel_rfl) rfl rfl ?_
  refine wp_store_mid 70 _ _ rfl gm 1803 (frL gas cv).toArray rfl rfl (m5.there (by show 1803 + 65 ≤ 2435; omega)) Safg.size70 (all_oneCell_toArray (frL_one gas cv hone)) ?_
  refine ⟨Blk.off hHeld hg3m, ?_⟩
  try simp only [Act.put, List.setIfInBounds_toArray, List.set_cons_zero, List.set_cons_succ]
  refine wpAnyH_done (by kernel_rfl) ?_ _
  try rw [List.toList_toArray]
  have m6 := m5.sets (k := 1803) (frL gas cv) (by rw [frL_length]; omega)
  have n6 : Only gm w4.drew (w4.drew.setCells gm 1803 (frL gas cv)) := Only.setCells _ _ (Only.refl _ _)
  have k6 : Blk (w4.drew.setCells gm 1803 (frL gas cv)) g3 (frL gas cv) := Blk.off hHeld hg3m
  have T6 : Turn [gm] w3' (w4.drew.setCells gm 1803 (frL gas cv)) := ((Turn.of_only n4).trans (Turn.drew [gm] w4)).trans (Turn.of_only n6)
  clear m4 m5 n4 n6 k3 k4 hHeld s5
  generalize w4.drew.setCells gm 1803 (frL gas cv) = w6 at *
  have m7 := m6.set (k := 2258) (by omega) (.int .i8 0)
  have m8 := m7.set (k := 2404) (by omega) (.int .u8 1)
  have c6 := m6.cell 2258 (by omega)
  have c7 := m7.cell 2404 (by omega)
  have c8 := m8.cell 2259 (by omega)
  have mf := mfStart gas cv o3'.o
  have r8 : ((w6.setCell ⟨gm, 2258, none⟩ (.int .i8 0)).setCell ⟨gm, 2404, none⟩ (.int .u8 1)).cell? ⟨gm, 2259, none⟩ = some (.slice none 0 0) := by
    rw [c8]; exact congrArg some mf.ret
  have t6 : w6.cell? ⟨gm, 2258, none⟩ = some (.int .i8 (-1)) := by
    rw [c6, updL_out _ _ (by rw [frL_length]; omega), upd_ne _ _ (by omega), o3'.o.top]
  obtain ⟨ph, hph⟩ : ∃ v, upd (updL (upd f 10 (.int .u8 1)) 1803 (frL gas cv)) 2258 (.int .i8 0) 2404 = v := ⟨_, rfl⟩
  have t7 : (w6.setCell ⟨gm, 2258, none⟩ (.int .i8 0)).cell? ⟨gm, 2404, none⟩ = some ph := by rw [c7, hph]
  have y6 := m6.free 2258
  have y7 := m7.free 2404
  have y8 := m8.free 2259
  have n7 := ((Only.refl gm w6).setCell 2258 (.int .i8 0)).setCell 2404 (.int .u8 1)
  have T8 := T6.trans (Turn.of_only n7)
  have k8 := OS.blk_turn k6 (Turn.of_only n7) (by simpa using hg3m)
  have self8 : ((w6.setCell ⟨gm, 2258, none⟩ (.int .i8 0)).setCell ⟨gm, 2404, none⟩ (.int .u8 1)).setCell ⟨gm, 2259, none⟩ (.slice none 0 0) = (w6.setCell ⟨gm, 2258, none⟩ (.int .i8 0)).setCell ⟨gm, 2404, none⟩ (.int .u8 1) := setCell_self r8
  clear c6 c7 c8 hph T6 n7
  go_upto_region 14 with fail
  try rw [self8]
  have m8 : MB ((w6.setCell ⟨gm, 2258, none⟩ (.int .i8 0)).setCell ⟨gm, 2404, none⟩ (.int .u8 1)) gm (fRun f gas cv) := m8
  clear m6 m7 t6 t7 y6 y7 y8 r8 self8 k6
  generalize (w6.setCell ⟨gm, 2258, none⟩ (.int .i8 0)).setCell ⟨gm, 2404, none⟩ (.int .u8 1) = w8 at *
  have q0 : w8.cell? ⟨g3, 0, none⟩ = some (.int .u8 0) := k8.get rfl
  go_wp2_with (first | (go_at_call 182; refine (creates_zero _).mono ?_; rintro e w9 ⟨rfl, rfl⟩) | (refine wpList_load_mid rfl 33 _ rfl g3 29 rfl (cellsL (adr 240)) _ (fun j v hv => k8.get (frL_caller gas cv hv)) Safg.under33 rfl Safg.size33 ?_) | (refine wpList_load_mid rfl 33 _ rfl g3 9 rfl (cellsL (adr 1)) _ (fun j v hv => k8.get (frL_self gas cv hv)) Safg.under33 rfl Safg.size33 ?_) | (refine wpList_load_mid rfl 65 _ rfl g3 49 rfl Wd4.zero.cells _ (fun j v hv => k8.get (frL_value gas cv hv)) Safg.under65 rfl Safg.size65 ?_) | (go_at_call 184; refine (move_zero _ gm (adr 240) (adr 1) rfl rfl).mono ?_; rintro e w10 ⟨rfl, b10⟩))
  have hcvl : cv = .slice (some ⟨gk, 0, none⟩) C.length C.length := by rw [hC.len]; exact HCV.out.symm
  go_ret
  refine ⟨rfl, ?_, ?_⟩
  · have ow := ownOf (o3'.blk (g := gk) (cs := cellsL C) (by simp))
    have hgk : gk ≠ gm := (o3'.ks (gk, cellsL C) (by simp)).2.2
    have R8 : Run w9 gm gv gk 0 0 gas (fun _ => Wd4.zero) C (adr 1) (adr 240) := ⟨⟨_, m8, by rw [← hcvl]; exact mf⟩, Nat.lt_of_lt_of_le o3'.v.lt T8.size, by rw [T8.cell (p := ⟨gv, 24580, none⟩) o3'.v.lt (by simpa using Ne.symm o3'.am.v)]; exact o3'.v.cR, by rw [T8.cell (p := ⟨gv, 24581, none⟩) o3'.v.lt (by simpa using Ne.symm o3'.am.v)]; exact o3'.v.cL, T8.own ow (by simpa using hgk), o3'.am.v, hgk⟩
    exact R8.below b10
  · exact (o3'.base.trans (T8.below o3'.hB (by intro i hi; obtain rfl : i = gm := (by simpa using hi); exact o3'.hgm))).trans (b10.mono (Nat.le_trans o3'.hB T8.size))
end Go.Proofs.YgcsafGreat
