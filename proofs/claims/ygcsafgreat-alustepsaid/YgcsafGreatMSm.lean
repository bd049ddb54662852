/-
  Small functions on the road of 'Open'.
-/
import Derived.Test.YgcsafGreatMF
import Derived.Test.YgcsafGreatVEnd
import Derived.Test.YgcsafGreatMulW2
namespace Go.Proofs.YgcsafGreat
open Go.RowKit
set_option linter.unusedVariables false
set_option linter.unusedSimpArgs false

set_option maxRecDepth 100000 in
set_option maxHeartbeats 1000000 in
theorem imm_push (w : World) : Calls Safg.prog 295 #[.int .u8 127] w fun e w' => e = .returned (.int .u8 32) ∧ w' = w := by
  go_enter Safg.func295, Safg.ntmps295
  go_wp2
  go_ret
  exact ⟨rfl, rfl⟩
set_option maxRecDepth 100000 in
set_option maxHeartbeats 1000000 in
theorem imm_low (w : World) (o : Nat) (ho : o < 96) : Calls Safg.prog 295 #[.int .u8 (o : Int)] w fun e w' => e = .returned (.int .u8 0) ∧ w' = w := by
  have t1 : decide ((95 : Int) < (o : Int)) = false := decide_eq_false (by omega)
  go_enter Safg.func295, Safg.ntmps295
  go_wp2
  go_ret
  exact ⟨rfl, rfl⟩
set_option maxRecDepth 100000 in
set_option maxHeartbeats 1000000 in
theorem creates_zero (w : World) : Calls Safg.prog 182 #[.int .u8 0] w fun e w' => e = .returned (.bool false) ∧ w' = w := by
  go_enter Safg.func182, Safg.ntmps182
  go_wp2
  go_ret
  exact ⟨rfl, rfl⟩
set_option maxRecDepth 100000 in
set_option maxHeartbeats 1000000 in
theorem listOK_nil (w : World) (gx : Nat) (h : w.cell? ⟨gx, 173, none⟩ = some (.slice none 0 0)) : Calls Safg.prog 159 #[.pointer (some ⟨gx, 0, none⟩)] w fun e w' => e = .returned (.bool true) ∧ w' = w := by
  go_enter Safg.func159, Safg.ntmps159
  go_upto_region 5 with fail
  go_loopw [17] (fun i wr => i = .int .i64 0 ∧ wr = w) (fun _ _ => 0)
  case atStart => exact ⟨rfl, rfl⟩
  case round =>
    obtain ⟨rfl, rfl⟩ := hrel
    go_wp2
    go_ret
    exact ⟨rfl, rfl⟩
set_option maxRecDepth 100000 in
set_option maxHeartbeats 2000000 in
theorem intrinsic_tx (w : World) : Calls Safg.prog 55 #[.agg txL.toArray] w fun e w' => e = .returned (.int .u64 21000) ∧ Below w.heap.size w w' := by
  go_enter Safg.func55, Safg.ntmps55
  go_upto_region 2 with (refine wpList_box_agg rfl 58 (.tmp 0) rfl txL rfl ?_; intro w1 g1 hg1 k1 b1)
  have h1 : w1.cell? ⟨g1, 107, none⟩ = some (.slice none 0 0) := k1.get rfl
  have h2 : w1.cell? ⟨g1, 173, none⟩ = some (.slice none 0 0) := k1.get rfl
  have h3 : w1.cell? ⟨g1, 40, none⟩ = some (.bool false) := k1.get rfl
  clear k1
  go_upto_region 3 with fail
  go_loopw [3, 11] (fun g i wr => g = .int .u64 21000 ∧ i = .int .i64 0 ∧ wr = w1) (fun _ _ _ => 0)
  case atStart => exact ⟨rfl, rfl, rfl⟩
  case round =>
    obtain ⟨rfl, rfl, rfl⟩ := hrel
    go_upto_region 10 with fail
    go_loopw [3, 25] (fun g i wq => g = .int .u64 21000 ∧ i = .int .i64 0 ∧ wq = wr) (fun _ _ _ => 0)
    case atStart => exact ⟨rfl, rfl, rfl⟩
    case round =>
      obtain ⟨rfl, rfl, rfl⟩ := hrel
      go_wp2
      go_ret
      exact ⟨rfl, b1⟩
set_option maxRecDepth 100000 in
set_option maxHeartbeats 1000000 in
theorem warmList_nil (w : World) (gv : Nat) : Calls Safg.prog 62 #[.pointer (some ⟨gv, 0, none⟩), .slice none 0 0] w fun e w' => e = .returned (.tuple #[]) ∧ w' = w := by
  go_enter Safg.func62, Safg.ntmps62
  go_upto_region 1 with fail
  go_loopw [11] (fun i wr => i = .int .i64 0 ∧ wr = w) (fun _ _ => 0)
  case atStart => exact ⟨rfl, rfl⟩
  case round =>
    obtain ⟨rfl, rfl⟩ := hrel
    go_wp2
    go_end0
    exact ⟨rfl, rfl⟩
set_option maxRecDepth 100000 in
set_option maxHeartbeats 1000000 in
theorem nativeAt_one (w : World) : Calls Safg.prog 64 #[arrV (adr 1)] w fun e w' => e = .returned (.int .u8 0) ∧ Below w.heap.size w w' := by
  have ne4 : decide (adr 1 = adr 4) = false := by decide
  have ne5 : decide (adr 1 = adr 5) = false := by decide
  go_enter Safg.func64, Safg.ntmps64
  go_wp2_with (first | (refine wpList_box_arr rfl 33 (.tmp 0) rfl (adr 1) rfl ?_; intro w1 g1 hg1 o1 b1) | (refine wpList_load_arr rfl 33 (.tmp 1) rfl g1 rfl (adr 1) o1 20 5 Safg.under33 Safg.size33 ?_) | (refine wpList_build_at rfl 33 _ rfl [(19, .int .u8 ((4 : Nat) : Int))] rfl (cellsL (adr 4)) (built33 4) ?_) | (refine wpList_eql_arr rfl 33 33 (.tmp 3) (.tmp 4) rfl 20 Safg.under33 rfl (adr 1) (adr 4) rfl rfl (adr_dig (by omega)) (adr_dig (by omega)) rfl rfl ?_; rw [ne4]) | (refine wpList_unguard (by rfl) ?_; first | (refine wpList_load_arr rfl 33 (.tmp 1) rfl g1 rfl (adr 1) o1 20 5 Safg.under33 Safg.size33 ?_) | (refine wpList_build_at rfl 33 _ rfl [(19, .int .u8 ((5 : Nat) : Int))] rfl (cellsL (adr 5)) (built33 5) ?_) | (refine wpList_eql_arr rfl 33 33 (.tmp 7) (.tmp 8) rfl 20 Safg.under33 rfl (adr 1) (adr 5) rfl rfl (adr_dig (by omega)) (adr_dig (by omega)) rfl rfl ?_; rw [ne5])))
  go_ret
  exact ⟨rfl, b1⟩
set_option maxRecDepth 100000 in
set_option maxHeartbeats 2000000 in
theorem spacious_any (B : Nat) (w : World) (gm gv : Nat) (f : Nat → Value) (s : Vst) (hm : MB w gm f) (f0 : f 0 = .pointer (some ⟨gv, 0, none⟩)) (f10 : f 10 = .int .u8 0) (ft : f 2258 = .int .i8 (-1)) (hv : VOk B w gv s) (hnm : s.nm ≤ 8) :
    Calls Safg.prog 52 #[.pointer (some ⟨gm, 0, none⟩)] w fun e w' => e = .returned (.bool true) ∧ Same w w' := by
  have HS := sizes_any B w gv s hv hnm
  have c0 := hm.cell 0 (by omega)
  rw [f0] at c0
  have h1 := hv.few; have h2 := hv.jfew
  have c1 := hm.cell 10 (by omega)
  have c2 := hm.cell 2258 (by omega)
  rw [f10] at c1
  rw [ft] at c2
  generalize s.accts.length = n at *
  generalize s.jn = jn at *
  generalize s.nm = nm at *
  have t1 : decide ((n : Int) ≤ 2539) = true := decide_eq_true (by omega)
  have t2 : decide ((jn : Int) ≤ 65445) = true := decide_eq_true (by omega)
  have t3 : decide ((0 : Int) ≤ (nm : Int)) = true := decide_eq_true (by omega)
  have t4 : decide ((nm : Int) < 16384) = true := decide_eq_true (by omega)
  clear hm hv f0 f10 ft
  go_enter Safg.func52, Safg.ntmps52
  go_upto_region 2 with (go_at_call 53; refine HS.mono ?_; rintro e w1 ⟨rfl, sm⟩)
  have d1 : w1.cell? ⟨gm, 10, none⟩ = some (.int .u8 0) := by rw [sm.cell]; exact c1
  have d2 : w1.cell? ⟨gm, 2258, none⟩ = some (.int .i8 (-1)) := by rw [sm.cell]; exact c2
  go_wp2
  go_ret
  exact ⟨rfl, sm⟩
theorem Blk.part {w : World} {g : Nat} {cs A M R : List Value} (h : Blk w g cs) (e : cs = A ++ (M ++ R)) : w.rangeAt g A.length M := fun j v hv => by
  refine h.get ?_
  rw [e, List.getElem?_append_right (by omega), Nat.add_sub_cancel_left, List.getElem?_append_left (List.getElem?_eq_some_iff.1 hv).1]
  exact hv
theorem tx_from {w : World} {gx : Nat} (h : Blk w gx txL) : w.rangeAt gx 0 (cellsL (adr 240)) := h.part (A := []) rfl
theorem tx_to {w : World} {gx : Nat} (h : Blk w gx txL) : w.rangeAt gx 20 (cellsL (adr 1)) := h.part (A := cellsL (adr 240)) rfl
def txA : List Value := cellsL (adr 240) ++ (cellsL (adr 1) ++ [.bool false, .int .u64 0, .int .u64 200000])
set_option maxRecDepth 100000 in
theorem tx_price {w : World} {gx : Nat} (h : Blk w gx txL) : w.rangeAt gx 43 (cellsL (List.replicate 32 0)) := by
  have hp := h.part (A := txA) (M := cellsL (List.replicate 32 0)) (R := cellsL (List.replicate 32 0) ++ ([.slice none 0 0, .bool false] ++ (cellsL (List.replicate 64 0) ++ [.slice none 0 0]))) (by kernel_rfl)
  have hl : txA.length = 43 := by kernel_rfl
  rw [hl] at hp
  exact hp
def txB : List Value := txA ++ cellsL (List.replicate 32 0)
set_option maxRecDepth 100000 in
theorem tx_value {w : World} {gx : Nat} (h : Blk w gx txL) : w.rangeAt gx 75 (cellsL (List.replicate 32 0)) := by
  have hp := h.part (A := txB) (M := cellsL (List.replicate 32 0)) (R := [.slice none 0 0, .bool false] ++ (cellsL (List.replicate 64 0) ++ [.slice none 0 0])) (by kernel_rfl)
  have hl : txB.length = 75 := by kernel_rfl
  rw [hl] at hp
  exact hp
set_option maxRecDepth 100000 in
set_option maxHeartbeats 2000000 in
theorem txFees_tx (w : World) (gx : Nat) (k : Blk w gx txL) : Calls Safg.prog 266 #[.pointer (some ⟨gx, 0, none⟩)] w fun e w' => e = .returned (.tuple #[arrV (List.replicate 32 0), arrV (List.replicate 32 0)]) ∧ Below w.heap.size w w' := by
  go_enter Safg.func266, Safg.ntmps266
  go_upto_region 1 with (refine wpList_alloc_arr rfl 51 rfl 32 Safg.zero51 ?_; first | ((fail_if_success (revert hg2)); intro w1 g2 hg2 o2 b2) | intro w2 g3 hg3 o3 b3)
  have k2 := (k.below b2 k.lt).below b3 (Nat.lt_of_lt_of_le k.lt b2.size)
  have o2' := o2.below b3 o2.lt
  have h1 : w2.cell? ⟨gx, 108, none⟩ = some (.bool false) := k2.get rfl
  have R : w2.drew.rangeAt gx 43 (cellsL (List.replicate 32 0)) := tx_price ((Same.drew w2).blk k2)
  clear k k2 o2
  go_upto_region 3 with fail
  refine wp_region_held_drew (S := fun w' => w' = w2.drew) (by kernel_rfl) rfl (fun hHeld => ?_)
  refine wpAnyH_take' (i := 0) (d := 16) rfl rfl (by kernel_rfl) (by kernel_rfl) (by kernel_rfl) (fun _ _ _ h => h) (Or.inl ⟨by rfl, fun w hw => by go_simp; try rfl⟩) hHeld ?_
  try simp only [Act.put, List.setIfInBounds_toArray, List.set_cons_zero, List.set_cons_succ]
  refine wpAnyH_take' (i := 1) (d := 17) rfl rfl (by kernel_rfl) (by kernel_rfl) (by kernel_rfl) (fun _ _ _ h => h) (Or.inl ⟨by rfl, fun w hw => by go_simp; try rfl⟩) hHeld ?_
  try simp only [Act.put, List.setIfInBounds_toArray, List.set_cons_zero, List.set_cons_succ]
  refine wpAnyH_take' (i := 2) (d := 18) rfl rfl (by kernel_rfl) (by kernel_rfl) (by kernel_rfl) (fun _ _ _ h => h) (Or.inl ⟨by rfl, fun w hw => by go_simp; try rfl⟩) hHeld ?_
  try simp only [Act.put, List.setIfInBounds_toArray, List.set_cons_zero, List.set_cons_succ]
  refine wpAnyH_take' (i := 3) (d := 19) rfl rfl (by kernel_rfl) (by kernel_rfl) (by kernel_rfl) (fun _ _ _ h => h) (yieldsIf_load_mid (by rfl) 51 _ rfl gx 43 rfl (cellsL (List.replicate 32 0)) _ (fun w hw => by rw [hw]; exact R) Safg.under51 rfl Safg.size51) hHeld ?_
  try simp only [Act.put, List.setIfInBounds_toArray, List.set_cons_zero, List.set_cons_succ]
  refine wpAnyH_take' (i := 4) (d := 20) rfl rfl (by kernel_rfl) (by kernel_rfl) (by kernel_rfl) (fun _ _ _ h => h) (Or.inl ⟨by rfl, fun w hw => by go_simp; try rfl⟩) hHeld ?_
  try simp only [Act.put, List.setIfInBounds_toArray, List.set_cons_zero, List.set_cons_succ]
  refine wpAnyH_take' (i := 5) (d := 21) rfl rfl (by kernel_rfl) (by kernel_rfl) (by kernel_rfl) (fun _ _ _ h => h) (Or.inl ⟨by rfl, fun w hw => by go_simp; try rfl⟩) hHeld ?_
  try simp only [Act.put, List.setIfInBounds_toArray, List.set_cons_zero, List.set_cons_succ]
  refine wpAnyH_take' (i := 6) (d := 22) rfl rfl (by kernel_rfl) (by kernel_rfl) (by kernel_rfl) (fun _ _ _ h => h) (Or.inl ⟨by rfl, fun w hw => by go_simp; try rfl⟩) hHeld ?_
  try simp only [Act.put, List.setIfInBounds_toArray, List.set_cons_zero, List.set_cons_succ]
  refine wpAnyH_take' (i := 7) (d := 23) rfl rfl (by kernel_rfl) (by kernel_rfl) (by kernel_rfl) (fun _ _ _ h => h) (yieldsIf_load_mid (by rfl) 51 _ rfl gx 43 rfl (cellsL (List.replicate 32 0)) _ (fun w hw => by rw [hw]; exact R) Safg.under51 rfl Safg.size51) hHeld ?_
  try simp only [Act.put, List.setIfInBounds_toArray, List.set_cons_zero, List.set_cons_succ]
  have z2 := setCells_self (w := w2.drew) (g := g2) (cellsL (List.replicate 32 0)) 0 ((Same.drew w2).own o2').range
  have z3 := setCells_self (w := w2.drew) (g := g3) (cellsL (List.replicate 32 0)) 0 ((Same.drew w2).own o3).range
  refine wpAnyH_one 8 (by kernel_rfl) rfl rfl ?_
  refine wp_store_mid 51 _ _ rfl g2 0 (cellsL (List.replicate 32 0)).toArray rfl rfl ((Same.drew w2).own o2').there Safg.size51 (all_oneCell_toArray (cellsL_one _)) ?_
  rw [List.toList_toArray, z2]
  refine ⟨rfl, ?_⟩
  refine wpAnyH_one 9 (by kernel_rfl) rfl rfl ?_
  refine wp_store_mid 51 _ _ rfl g3 0 (cellsL (List.replicate 32 0)).toArray rfl rfl ((Same.drew w2).own o3).there Safg.size51 (all_oneCell_toArray (cellsL_one _)) ?_
  rw [List.toList_toArray, z3]
  refine ⟨rfl, ?_⟩
  refine wpAnyH_done (by kernel_rfl) ?_ _
  go_wp2
  refine bodyPost_ret (results_cell2 Safg.results266 _ w2.drew g2 g3 (cellsL (List.replicate 32 0)) (cellsL (List.replicate 32 0)) _ _ rfl rfl ((Same.drew w2).own o2').blk ((Same.drew w2).own o3).blk Safg.under51 rfl Safg.size51 Safg.under51 rfl Safg.size51) rfl ⟨rfl, (b2.trans (b3.mono b2.size)).trans ((Turn.drew_below w2).mono (Nat.le_trans b2.size b3.size))⟩
set_option maxRecDepth 100000 in
theorem wdOf_zero : wdOf (List.replicate 32 0) = Wd4.zero := rfl
set_option maxRecDepth 100000 in
set_option maxHeartbeats 2000000 in
theorem fees_tx (w : World) : Calls Safg.prog 161 #[.agg txL.toArray] w fun e w' => e = .returned (.tuple #[Wd4.zero.v, Wd4.zero.v]) ∧ Below w.heap.size w w' := by
  go_enter Safg.func161, Safg.ntmps161
  go_upto_region 1 with (first | (refine wpList_box_agg rfl 58 (.tmp 0) rfl txL rfl ?_; intro w1 g1 hg1 k1 b1) | (refine wpList_alloc_agg rfl 65 rfl _ Safg.zero65 ?_; first | ((fail_if_success (revert hg2)); intro w2 g2 hg2 k2 b2) | intro w3 g3 hg3 k3 b3))
  have HF := txFees_tx w3 g1 ((k1.below b2 k1.lt).below b3 (Nat.lt_of_lt_of_le k1.lt b2.size))
  have s1 := b1.size; have s2 := b2.size; have s3 := b3.size
  have bb : Below w.heap.size w w3 := (b1.trans (b2.mono s1)).trans (b3.mono (by omega))
  have m2 := k2.below b3 k2.lt
  clear k1 k2 b1 b2 b3
  go_upto_region 2 with (first | (go_at_call 266; refine HF.mono ?_; rintro e w4 ⟨rfl, b4⟩) | (refine wpList_alloc_arr rfl 51 rfl 32 Safg.zero51 ?_; first | ((fail_if_success (revert hg5)); intro w5 g4 hg5 o4 b5) | (intro w6 g5 hg6 o5 b6; have o4' := o4.below b6 o4.lt)) | (refine wpList_store_arr rfl 51 (.tmp 4) (.tmp 8) rfl g4 rfl (List.replicate 32 0) (List.replicate 32 0) rfl o4' rfl Safg.size51 ?_; intro w7 o7 n7; have o5' := n7.own o5 (by have := o4.lt; omega)) | (refine wpList_store_arr rfl 51 (.tmp 5) (.tmp 9) rfl g5 rfl (List.replicate 32 0) (List.replicate 32 0) rfl o5' rfl Safg.size51 ?_; intro w8 o8 n8; have o7' := n8.own o7 (by have := o4.lt; omega)))
  have s4 := b4.size; have s5 := b5.size; have s6 := b6.size; have s7 := n7.size; have s8 := n8.size
  have l4 := o4.lt; have l2 := m2.lt; have l3 := k3.lt
  have B8 : Below w3.heap.size w3 w8 := (((b4.trans (b5.mono s4)).trans (b6.mono (by omega))).trans (n7.below (by omega))).trans (n8.below (by omega))
  have m8 := m2.below B8 l2
  have t8 := k3.below B8 l3
  have bb8 := bb.trans (B8.mono (by omega))
  clear b4 b5 b6 n7 n8 o4 o4' o5 o5' o7 HF m2 k3 bb B8
  refine wp_region_held_drew (S := fun w' => Own w' g4 (List.replicate 32 0) ∧ Own w' g5 (List.replicate 32 0)) (by kernel_rfl) ⟨(Same.drew w8).own o7', (Same.drew w8).own o8⟩ (fun hHeld => ?_)
  refine wpAnyH_take' (i := 0) (d := 10) rfl rfl (by kernel_rfl) (by kernel_rfl) (by kernel_rfl) (fun _ _ _ h => h) (yieldsIf_load_mid (by rfl) 51 _ rfl g4 0 rfl (cellsL (List.replicate 32 0)) _ (fun w hw => hw.1.range) Safg.under51 rfl Safg.size51) hHeld ?_
  try simp only [Act.put, List.setIfInBounds_toArray, List.set_cons_zero, List.set_cons_succ]
  refine wpAnyH_take' (i := 2) (d := 12) rfl rfl (by kernel_rfl) (by kernel_rfl) (by kernel_rfl) (fun _ _ _ h => h) (yieldsIf_load_mid (by rfl) 51 _ rfl g5 0 rfl (cellsL (List.replicate 32 0)) _ (fun w hw => hw.2.range) Safg.under51 rfl Safg.size51) hHeld ?_
  try simp only [Act.put, List.setIfInBounds_toArray, List.set_cons_zero, List.set_cons_succ]
  refine wpAnyH_one 1 (by kernel_rfl) rfl rfl ?_
  refine wp_callR Safg.func63 (by kernel_rfl) (by kernel_rfl) (fromBytes_any w8.drew (List.replicate 32 0) rfl (D.Dig.replicate _)) rfl rfl ?_
  rintro e w9 ⟨rfl, b9⟩
  have S9 : Own w9 g4 (List.replicate 32 0) ∧ Own w9 g5 (List.replicate 32 0) := ⟨hHeld.1.below b9 hHeld.1.lt, hHeld.2.below b9 hHeld.2.lt⟩
  refine ⟨_, rfl, S9, ?_⟩
  refine wpAnyH_one 3 (by kernel_rfl) rfl rfl ?_
  refine wp_callR Safg.func63 (by kernel_rfl) (by kernel_rfl) (fromBytes_any w9 (List.replicate 32 0) rfl (D.Dig.replicate _)) rfl rfl ?_
  rintro e w10 ⟨rfl, b10⟩
  have S10 : Own w10 g4 (List.replicate 32 0) ∧ Own w10 g5 (List.replicate 32 0) := ⟨S9.1.below b10 S9.1.lt, S9.2.below b10 S9.2.lt⟩
  refine ⟨_, rfl, S10, ?_⟩
  have B10 : Below w8.heap.size w8 w10 := ((Turn.drew_below w8).trans (b9.mono (Nat.le_refl _))).trans (b10.mono b9.size)
  have m10 := m8.below B10 m8.lt
  have t10 := t8.below B10 t8.lt
  have z2 := setCells_self (w := w10) (g := g2) Wd4.zero.cells 0 m10.cell
  have z3 := setCells_self (w := w10) (g := g3) Wd4.zero.cells 0 t10.cell
  try simp only [wdOf_zero]
  refine wpAnyH_one 4 (by kernel_rfl) rfl rfl ?_
  refine wp_store_mid 65 _ _ rfl g2 0 Wd4.zero.cells.toArray rfl rfl m10.there Safg.size65 (all_oneCell_toArray (Wd4.one _)) ?_
  rw [List.toList_toArray, z2]
  refine ⟨S10, ?_⟩
  refine wpAnyH_one 5 (by kernel_rfl) rfl rfl ?_
  refine wp_store_mid 65 _ _ rfl g3 0 Wd4.zero.cells.toArray rfl rfl t10.there Safg.size65 (all_oneCell_toArray (Wd4.one _)) ?_
  rw [List.toList_toArray, z3]
  refine ⟨S10, ?_⟩
  refine wpAnyH_done (by kernel_rfl) ?_ _
  go_wp2
  refine bodyPost_ret (results_cell2 Safg.results161 _ w10 g2 g3 Wd4.zero.cells Wd4.zero.cells _ _ rfl rfl m10 t10 Safg.under65 rfl Safg.size65 Safg.under65 rfl Safg.size65) rfl ⟨rfl, bb8.trans (B10.mono bb8.size)⟩
end Go.Proofs.YgcsafGreat
