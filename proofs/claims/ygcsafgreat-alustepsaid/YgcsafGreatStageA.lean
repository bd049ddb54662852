/-
  'law.addrNo' (46), 'law.sender' (38), 'law.toA1' (19), 'law.StageEnv' (17).
-/
import Derived.Test.YgcsafGreatBytesV
import Derived.Test.YgcsafGreatBEW
namespace Go.Proofs.YgcsafGreat
open Go.RowKit
set_option linter.unusedVariables false
set_option linter.unusedSimpArgs false

/-- A struct or array literal. -/
theorem wpList_build_at {w : World} {ops : Array Oper} {rest : List Oper} {o : Oper} {a : Act} {Q : Exit → Act → World → Prop} (hgd : o.guard = none) (t : TypeId) (parts : Array (Nat × Operand)) (ho : o.op = .build t parts) (L : List (Nat × Value)) (hL : parts.toList.map (fun x => (x.1, a.eval x.2)) = L) (cells : List Value) (hb : Safg.prog.built t L = some cells.toArray)
    (hK : wpList Safg.prog ops Q rest (a.put o.dst (.agg cells.toArray)) w) : wpList Safg.prog ops Q (o :: rest) a w := by
  refine wpList_plain hgd fun K hK' => ?_
  unfold Oper.wp
  have e : (parts.map fun (i, x) => (i, a.eval x)).toList = L := by
    rw [← hL]; simp
  have := run_op_build (w := w) (parts := parts.map fun (i, x) => (i, a.eval x)) (t := t) (cells := cells.toArray) (by rw [e]; exact hb)
  simp only [execOp, ho, Sem.run_bind]
  rw [this]
  exact hK' _ _ hK
/-- The address that ends in n. -/
def adr (n : Nat) : List Nat := List.replicate 19 0 ++ [n]
theorem adr_length (n : Nat) : (adr n).length = 20 := rfl
theorem adr_dig {n : Nat} (h : n < 256) : D.Dig (adr n) := by
  intro x hx
  simp only [adr, List.mem_append, List.mem_replicate, List.mem_singleton] at hx
  rcases hx with ⟨_, rfl⟩ | rfl <;> omega
set_option maxRecDepth 100000 in
theorem built33 (n : Nat) : Safg.prog.built 33 [(19, .int .u8 (n : Int))] = some (cellsL (adr n)).toArray := by kernel_rfl
set_option maxRecDepth 100000 in
theorem Safg.zero33 : (Safg.prog.info? 33).map (·.zero) = some (some (arrV (List.replicate 20 0))) := by kernel_rfl
set_option maxRecDepth 100000 in
set_option maxHeartbeats 2000000 in
theorem addrNo_any (w : World) (n : Nat) (hn : n < 256) :
    Calls Safg.prog 46 #[.int .u8 (n : Int)] w fun e w' => e = .returned (arrV (adr n)) ∧ Below w.heap.size w w' := by
  go_enter Safg.func46, Safg.ntmps46
  go_wp2_with (first | (refine wpList_alloc_arr rfl 33 rfl 20 Safg.zero33 ?_; intro w1 g1 hg1 o1 b1) | (refine wpList_build_at rfl 33 _ rfl [(19, .int .u8 (n : Int))] rfl (cellsL (adr n)) (built33 n) ?_) | (refine wpList_store_arr rfl 33 (.tmp 2) (.tmp 4) rfl g1 rfl (List.replicate 20 0) (adr n) rfl o1 rfl Safg.size33 ?_; intro w2 k2 n2))
  refine bodyPost_ret (results_cell1 Safg.results46 _ w2 g1 (cellsL (adr n)) _ rfl k2.blk Safg.under33 rfl (by rw [cellsL_length]; exact Safg.size33)) rfl ⟨rfl, b1.trans (n2.below hg1)⟩

set_option maxRecDepth 100000 in
set_option maxHeartbeats 2000000 in
theorem sender_any (w : World) :
    Calls Safg.prog 38 #[] w fun e w' => e = .returned (arrV (adr 240)) ∧ Below w.heap.size w w' := by
  go_enter Safg.func38, Safg.ntmps38
  go_wp2_with (first | (refine wpList_alloc_arr rfl 33 rfl 20 Safg.zero33 ?_; intro w1 g1 hg1 o1 b1) | (go_at_call 46; refine (addrNo_any w1 240 (by omega)).mono ?_; rintro e w2 ⟨rfl, b2⟩; have o2 := o1.below b2 o1.lt) | (refine wpList_store_arr rfl 33 (.tmp 0) (.tmp 1) rfl g1 rfl (List.replicate 20 0) (adr 240) rfl o2 rfl Safg.size33 ?_; intro w3 k3 n3))
  refine bodyPost_ret (results_cell1 Safg.results38 _ w3 g1 (cellsL (adr 240)) _ rfl k3.blk Safg.under33 rfl (by rw [cellsL_length]; exact Safg.size33)) rfl ⟨rfl, (b1.trans (b2.mono b1.size)).trans (n3.below hg1)⟩

/-- The block's cells. -/
def envL : List Value := cellsL (adr 192) ++ ([.int .u64 0, .int .u64 0, .int .u64 1048576] ++ (cellsL (List.replicate 96 0) ++ [.slice none 0 0]))
/-- The transaction's cells. -/
def txL : List Value := cellsL (adr 240) ++ (cellsL (adr 1) ++ ([.bool false, .int .u64 0, .int .u64 200000] ++ (cellsL (List.replicate 64 0) ++ ([.slice none 0 0, .bool false] ++ (cellsL (List.replicate 64 0) ++ [.slice none 0 0])))))
set_option maxRecDepth 100000 in
theorem built53 : Safg.prog.built 53 [(0, arrV (adr 192)), (3, .int .u64 1048576)] = some envL.toArray := by kernel_rfl
set_option maxRecDepth 100000 in
theorem built58 : Safg.prog.built 58 [(0, arrV (adr 240)), (1, arrV (adr 1)), (4, .int .u64 200000)] = some txL.toArray := by kernel_rfl
def env0 : List Value := cellsL (List.replicate 20 0) ++ ([.int .u64 0, .int .u64 0, .int .u64 0] ++ (cellsL (List.replicate 96 0) ++ [.slice none 0 0]))
def tx0 : List Value := cellsL (List.replicate 20 0) ++ (cellsL (List.replicate 20 0) ++ ([.bool false, .int .u64 0, .int .u64 0] ++ (cellsL (List.replicate 64 0) ++ ([.slice none 0 0, .bool false] ++ (cellsL (List.replicate 64 0) ++ [.slice none 0 0])))))
set_option maxRecDepth 100000 in
theorem Safg.zero53 : (Safg.prog.info? 53).map (·.zero) = some (some (.agg env0.toArray)) := by kernel_rfl
set_option maxRecDepth 100000 in
theorem Safg.zero58 : (Safg.prog.info? 58).map (·.zero) = some (some (.agg tx0.toArray)) := by kernel_rfl
set_option maxRecDepth 100000 in
theorem Safg.size53 : (Safg.prog.info? 53).map (·.size) = some 120 := by kernel_rfl
set_option maxRecDepth 100000 in
theorem Safg.size58 : (Safg.prog.info? 58).map (·.size) = some 174 := by kernel_rfl
theorem envL_one : ∀ v ∈ envL, v.oneCell' = true := by
  intro v hv
  simp only [envL, List.mem_append, List.mem_cons, List.not_mem_nil, or_false] at hv
  rcases hv with h | (rfl | rfl | rfl) | h | rfl
  · exact cellsL_one _ v h
  · rfl
  · rfl
  · rfl
  · exact cellsL_one _ v h
  · rfl
theorem txL_one : ∀ v ∈ txL, v.oneCell' = true := by
  intro v hv
  simp only [txL, List.mem_append, List.mem_cons, List.not_mem_nil, or_false] at hv
  rcases hv with h | h | (rfl | rfl | rfl) | h | (rfl | rfl) | h | rfl
  · exact cellsL_one _ v h
  · exact cellsL_one _ v h
  · rfl
  · rfl
  · rfl
  · exact cellsL_one _ v h
  · rfl
  · rfl
  · exact cellsL_one _ v h
  · rfl
set_option maxRecDepth 100000 in
set_option maxHeartbeats 2000000 in
theorem toA1_any (w : World) :
    Calls Safg.prog 19 #[] w fun e w' => e = .returned (.agg txL.toArray) ∧ Below w.heap.size w w' := by
  obtain ⟨fs, hfs⟩ : ∃ fs, Safg.prog.underlying 58 = some (.struct fs) := ⟨_, rfl⟩
  go_enter Safg.func19, Safg.ntmps19
  go_wp2_with (first | (refine wpList_alloc_agg rfl 58 rfl tx0 Safg.zero58 ?_; intro w1 g1 hg1 k1 b1) | (go_at_call 38; refine (sender_any w1).mono ?_; rintro e w2 ⟨rfl, b2⟩; have k2 := k1.below b2 k1.lt) | (go_at_call 46; refine (addrNo_any w2 1 (by omega)).mono ?_; rintro e w3 ⟨rfl, b3⟩; have k3 := k2.below b3 k2.lt) | (refine wpList_build_at rfl 58 _ rfl [(0, arrV (adr 240)), (1, arrV (adr 1)), (4, .int .u64 200000)] rfl txL built58 ?_) | (refine wpList_store_agg rfl 58 (.tmp 0) (.tmp 3) rfl g1 rfl tx0 txL rfl k3 rfl Safg.size58 txL_one ?_; intro w4 k4 n4))
  refine bodyPost_ret (results_cell1 Safg.results19 _ w4 g1 txL _ rfl k4 hfs rfl Safg.size58) rfl ⟨rfl, ((b1.trans (b2.mono b1.size)).trans (b3.mono (Nat.le_trans b1.size b2.size))).trans (n4.below hg1)⟩
set_option maxRecDepth 100000 in
set_option maxHeartbeats 2000000 in
theorem stageEnv_any (w : World) :
    Calls Safg.prog 17 #[] w fun e w' => e = .returned (.agg envL.toArray) ∧ Below w.heap.size w w' := by
  obtain ⟨fs, hfs⟩ : ∃ fs, Safg.prog.underlying 53 = some (.struct fs) := ⟨_, rfl⟩
  go_enter Safg.func17, Safg.ntmps17
  go_wp2_with (first | (refine wpList_alloc_agg rfl 53 rfl env0 Safg.zero53 ?_; intro w1 g1 hg1 k1 b1) | (go_at_call 46; refine (addrNo_any w1 192 (by omega)).mono ?_; rintro e w3 ⟨rfl, b3⟩; have k3 := k1.below b3 k1.lt) | (refine wpList_build_at rfl 53 _ rfl [(0, arrV (adr 192)), (3, .int .u64 1048576)] rfl envL built53 ?_) | (refine wpList_store_agg rfl 53 (.tmp 0) (.tmp 2) rfl g1 rfl env0 envL rfl k3 rfl Safg.size53 envL_one ?_; intro w4 k4 n4))
  refine bodyPost_ret (results_cell1 Safg.results17 _ w4 g1 envL _ rfl k4 hfs rfl Safg.size53) rfl ⟨rfl, (b1.trans (b3.mono b1.size)).trans (n4.below hg1)⟩
end Go.Proofs.YgcsafGreat
