/-
  The law's views; rows of words.
-/
import Derived.Test.YgcsafGreatMem
import Derived.Test.YgcsafGreatCutR
import Derived.Test.YgcsafGreatOpenV
import Derived.Test.YgcsafGreatBEW
namespace Go.Proofs.YgcsafGreat
open Go.RowKit
set_option linter.unusedVariables false
set_option linter.unusedSimpArgs false

/-- The cells of the law's views. -/
def vL (pc gas : Nat) (st : Value) : List Value := [.bool false, .bool false, .int .u8 0, .int .u16 (pc : Int), .int .u64 (gas : Int), .int .u64 0] ++ (cellsL (adr 1) ++ (cellsL (adr 240) ++ [st, .slice none 0 0, .slice none 0 0, .int .u16 0]))
theorem vL_length (pc gas : Nat) (st : Value) : (vL pc gas st).length = 50 := rfl
def v0 : List Value := [.bool false, .bool false, .int .u8 0, .int .u16 0, .int .u64 0, .int .u64 0] ++ (cellsL (List.replicate 20 0) ++ (cellsL (List.replicate 20 0) ++ [.slice none 0 0, .slice none 0 0, .slice none 0 0, .int .u16 0]))
set_option maxRecDepth 100000 in
theorem built36 (pc gas : Nat) : Safg.prog.built 36 [(1, .bool false), (2, .int .u8 0), (3, .int .u16 (pc : Int)), (4, .int .u64 (gas : Int)), (5, .int .u64 0), (6, arrV (adr 1)), (7, arrV (adr 240)), (9, .slice none 0 0), (10, .slice none 0 0), (11, .int .u16 0)] = some (vL pc gas (.slice none 0 0)).toArray := by kernel_rfl
set_option maxRecDepth 100000 in
theorem Safg.zero36 : (Safg.prog.info? 36).map (·.zero) = some (some (.agg v0.toArray)) := by kernel_rfl
set_option maxRecDepth 100000 in
theorem Safg.size36 : (Safg.prog.info? 36).map (·.size) = some 50 := by kernel_rfl
theorem vL_one (pc gas : Nat) (st : Value) (h : st.oneCell' = true) : ∀ v ∈ vL pc gas st, v.oneCell' = true := by
  intro v hv
  simp only [vL, List.mem_append, List.mem_cons, List.not_mem_nil, or_false] at hv
  rcases hv with (rfl | rfl | rfl | rfl | rfl | rfl) | h1 | h1 | rfl | rfl | rfl | rfl
  all_goals first | rfl | exact h | exact cellsL_one _ v h1
theorem vL_st (pc gas : Nat) (v st : Value) : (vL pc gas v).set 46 st = vL pc gas st := rfl
/-- A row of words, the first i of them laid. -/
structure StB (w : World) (g sp i : Nat) (ws : Nat → Wd4) : Prop where
  lt : g < w.heap.size
  free : ∀ o, w.frozen? ⟨g, o, none⟩ = false
  row : ∀ j, j < sp → w.rangeAt g (j * 32) (cellsL (if j < i then beL (ws j) else List.replicate 32 0))
theorem StB.turn {w w' : World} {S : List Nat} {g sp i : Nat} {ws : Nat → Wd4} (h : StB w g sp i ws) (t : Turn S w w') (hn : g ∉ S) : StB w' g sp i ws :=
  ⟨Nat.lt_of_lt_of_le h.lt t.size, fun o => by rw [t.frozen (p := ⟨g, o, none⟩) h.lt hn]; exact h.free o, fun j hj k v hv => by rw [t.cell (p := ⟨g, j * 32 + k, none⟩) h.lt hn]; exact h.row j hj k v hv⟩
theorem StB.below {w w' : World} {g sp i : Nat} {ws : Nat → Wd4} (h : StB w g sp i ws) (b : Below w.heap.size w w') : StB w' g sp i ws := h.turn (Turn.of_below b (Nat.le_refl _) []) (by simp)
theorem StB.len {i j : Nat} {ws : Nat → Wd4} : (cellsL (if j < i then beL (ws j) else List.replicate 32 0)).length = 32 := by
  rw [cellsL_length]
  split
  · exact beL_length _
  · simp
theorem StB.put {w : World} {g sp i : Nat} {ws : Nat → Wd4} (h : StB w g sp i ws) (hi : i < sp) : StB (w.setCells g (i * 32) (cellsL (beL (ws i)))) g sp (i + 1) ws := by
  have n := Only.setCells (g := g) (cellsL (beL (ws i))) (a := w) (w := w) (i * 32) (Only.refl _ _)
  refine ⟨by rw [n.size]; exact h.lt, fun o => by rw [World.frozen?_setCells]; exact h.free o, fun j hj k v hv => ?_⟩
  have hk : k < 32 := by have := (List.getElem?_eq_some_iff.1 hv).1; rwa [StB.len] at this
  by_cases e : j = i
  · subst e
    rw [if_pos (by omega)] at hv
    have := World.cell?_setCells_in g (cellsL (beL (ws j))) (j * 32) w (fun t ht => by
      rw [cellsL_length, beL_length] at ht
      have hr := h.row j hj t _ (List.getElem?_eq_getElem (by rw [StB.len]; exact ht))
      rw [hr]; rfl) k (by rw [cellsL_length, beL_length]; exact hk)
    rw [this]
    rw [List.getElem?_eq_getElem (by rw [cellsL_length, beL_length]; exact hk)] at hv
    exact hv
  · rw [World.cell?_setCells_out g (cellsL (beL (ws i))) (i * 32) w ⟨g, j * 32 + k, none⟩ (fun _ _ => by rw [cellsL_length, beL_length]; show j * 32 + k < i * 32 ∨ i * 32 + 32 ≤ j * 32 + k; omega)]
    refine h.row j hj k v ?_
    rw [← hv]
    by_cases e2 : j < i
    · rw [if_pos e2, if_pos (by omega)]
    · rw [if_neg e2, if_neg (by omega)]
theorem StB.zero {w : World} {g sp : Nat} {ws : Nat → Wd4} (h : Blk w g (cellsL (List.replicate (sp * 32) 0))) : StB w g sp 0 ws :=
  ⟨h.lt, h.free, fun j hj k v hv => by
    rw [if_neg (by omega)] at hv
    obtain ⟨hk, hv'⟩ := cellsL_get _ k v hv
    rw [List.length_replicate] at hk
    rw [D.getD_replicate] at hv'
    subst hv'
    refine h.get ?_
    unfold cellsL
    rw [List.getElem?_map, List.getElem?_eq_getElem (by rw [List.length_replicate]; omega), List.getElem_replicate]
    rfl⟩
/-- 'make' of a row of structs. -/
theorem wpList_make_rows (w : World) {ops : Array Oper} {rest : List Oper} {o : Oper} {a : Act} {Q : Exit → Act → World → Prop}
    (hg : o.guard = none) (l : Operand) (t e : TypeId) (hop : o.op = Op.makeSlice t l l) (h1 : Safg.prog.underlying t = some (.slice e)) (i : TypeInfo) (z : Value) (hi : Safg.prog.info? e = some i) (hz : i.zero = some z)
    (kl : IntKind) (n : Nat) (hl : a.eval l = .int kl (n : Int)) (hb : i.bytes ≤ 1024) (hn : n ≤ 65536) (cs : List Value) (hm : madeCells z.cells (n * i.size) = cs.toArray)
    (hK : ∀ w' g, w.heap.size ≤ g → Blk w' g cs → Below w.heap.size w w' → wpList Safg.prog ops Q rest (a.put o.dst (.slice (some ⟨g, 0, none⟩) n n)) w') :
    wpList Safg.prog ops Q (o :: rest) a w := by
  refine wpList_plain hg fun K hK' => ?_
  have hbn : (i.bytes : Int) * (n : Int) ≤ 281474976710656 := by
    have : i.bytes * n ≤ 1024 * 65536 := Nat.mul_le_mul hb hn
    have h2 : ((i.bytes * n : Nat) : Int) ≤ ((1024 * 65536 : Nat) : Int) := Int.ofNat_le.2 this
    rw [Int.natCast_mul] at h2
    omega
  have hrun := run_make (P := Safg.prog) w t e i z h1 hi hz kl kl (n : Int) (n : Int) (by omega) (Int.le_refl _) hbn (by omega)
  rw [show ((n : Int)).toNat = n by omega, hm] at hrun
  unfold Oper.wp
  simp [execOp, hop, hl, hrun, Result.andThen]
  exact hK' _ _ (hK _ _ (Nat.le_refl _) (Blk.alloc w cs e) ((Below.refl _ _).alloc (Nat.le_refl _) _))
set_option maxRecDepth 100000 in
theorem Safg.info51 : (Safg.prog.info? 51).map (fun i => (i.zero, i.size, i.bytes)) = some (some (arrV (List.replicate 32 0)), 32, 32) := by kernel_rfl
theorem info51' : ∃ i, Safg.prog.info? 51 = some i ∧ i.zero = some (arrV (List.replicate 32 0)) ∧ i.size = 32 ∧ i.bytes = 32 := by
  obtain ⟨i, hi, h⟩ := Option.map_eq_some_iff.1 Safg.info51
  simp only [Prod.mk.injEq] at h
  exact ⟨i, hi, h.1, h.2.1, h.2.2⟩
theorem Safg.under34 : Safg.prog.underlying 34 = some (.slice 51) := by kernel_rfl
/-- What 'View' answers. -/
def ViewPost (pc gas sp : Nat) (ws : Nat → Wd4) (w : World) (e : Ending) (w' : World) : Prop :=
  ∃ gS, e = .returned (.agg (vL pc gas (.slice (some ⟨gS, 0, none⟩) sp sp)).toArray) ∧ w.heap.size ≤ gS ∧ StB w' gS sp sp ws ∧ Below w.heap.size w w'
end Go.Proofs.YgcsafGreat
