/-
  'Arena.Load32' (55), 'Store32' (56), 'Store8' (57), 'Move' (58), 'Read' (59), 'Write' (60).
-/
import Derived.Test.YgcsafStore
import Derived.Laws.Cover3
namespace Go.Proofs.Ygcsaf
open Go.RowKit
set_option linter.unusedVariables false
set_option linter.unusedSimpArgs false

/-- n bytes from off on lie in the top frame. -/
def hasF (F : List (List Nat)) (off n : Nat) : Bool := match F.getLast? with
  | none => false
  | some t => decide (off + n ≤ t.length)
def topF (F : List (List Nat)) : List Nat := F.getLastD []
def putF (F : List (List Nat)) (off : Nat) (news : List Nat) : List (List Nat) := F.dropLast ++ [layL (topF F) off news]

/-- news laid at off if they lie within. -/
def putIf (F : List (List Nat)) (off n : Nat) (news : List Nat) : List (List Nat) := if hasF F off n = true then putF F off news else F
theorem putIf_no {F : List (List Nat)} {off n : Nat} (h : hasF F off n = false) (news : List Nat) : putIf F off n news = F := by unfold putIf; rw [if_neg (by rw [h]; simp)]
theorem putIf_yes {F : List (List Nat)} {off n : Nat} (h : hasF F off n = true) (news : List Nat) : putIf F off n news = F.dropLast ++ [layL (topF F) off news] := by unfold putIf; rw [if_pos h]; rfl
theorem hasF_nil (off n : Nat) : hasF [] off n = false := rfl
theorem hasF_app (G : List (List Nat)) (t : List Nat) (off n : Nat) : hasF (G ++ [t]) off n = decide (off + n ≤ t.length) := by simp [hasF]
theorem topF_app (G : List (List Nat)) (t : List Nat) : topF (G ++ [t]) = t := by simp [topF]
theorem putF_app (G : List (List Nat)) (t : List Nat) (off : Nat) (news : List Nat) : putF (G ++ [t]) off news = G ++ [layL t off news] := by simp [putF, topF_app]
theorem split_last (F : List (List Nat)) : F = [] ∨ ∃ G t, F = G ++ [t] := by
  rcases List.eq_nil_or_concat F with h | ⟨G, t, h⟩
  · exact .inl h
  · exact .inr ⟨G, t, by simpa using h⟩

theorem part_both (w : World) (B T : Nat) (bv : Value) (buf base : List Nat) (F : List (List Nat)) (h : ArF B T w bv buf base F) (off n : Nat) (ho : off < 4294967296) (hn : n < 4294967296) :
    Calls Safg.prog 94 #[.pointer (some ⟨T, 0, none⟩), .int .u32 (off : Int), .int .u32 (n : Int)] w fun e w' => Same w w' ∧
      ((hasF F off n = false ∧ e = .returned (.tuple #[.slice none 0 0, .bool false])) ∨
       (hasF F off n = true ∧ off + n ≤ (topF F).length ∧ ∃ ad g lo, e = .returned (.tuple #[.slice ad n n, .bool true]) ∧ Spot B T w' bv F.dropLast (topF F) off n ad g lo)) := by
  rcases split_last F with rfl | ⟨G, t, rfl⟩
  · refine (part_no w B T bv buf base h off n).mono ?_
    rintro e w1 ⟨rfl, rfl⟩
    exact ⟨Same.refl _, .inl ⟨rfl, rfl⟩⟩
  · refine (part_any w B T bv buf base G t h off n ho hn).mono ?_
    rintro e w1 ⟨s1, ⟨h1, rfl⟩ | ⟨h1, ad, g, lo, rfl, sp⟩⟩
    · exact ⟨s1, .inl ⟨by rw [hasF_app]; exact decide_eq_false (by omega), rfl⟩⟩
    · exact ⟨s1, .inr ⟨by rw [hasF_app]; exact decide_eq_true h1, by rw [topF_app]; exact h1, ad, g, lo, rfl, by rw [topF_app]; simpa using sp⟩⟩

/-- The n bytes from off on. -/
def subL (t : List Nat) (off n : Nat) : List Nat := (t.drop off).take n
theorem subL_length {t : List Nat} {off n : Nat} (h : off + n ≤ t.length) : (subL t off n).length = n := by simp [subL]; omega
theorem subL_dig {t : List Nat} {off n : Nat} (h : D.Dig t) : D.Dig (subL t off n) := fun d hd => h d (List.mem_of_mem_drop (List.mem_of_mem_take hd))
theorem subL_get {t : List Nat} {off n j : Nat} (hj : j < n) : (subL t off n).getD j 0 = t.getD (off + j) 0 := by
  simp only [subL, List.getD_eq_getElem?_getD, List.getElem?_take, List.getElem?_drop]
  rw [if_pos hj]

theorem topF_dig {F : List (List Nat)} (h : FOk F) : D.Dig (topF F) := by
  rcases split_last F with rfl | ⟨G, t, rfl⟩
  · exact D.Dig.nil
  · rw [topF_app]; exact h.dig t (by simp)
theorem topF_len {F : List (List Nat)} (h : FOk F) : (topF F).length ≤ 717280 := by
  rcases split_last F with rfl | ⟨G, t, rfl⟩
  · exact Nat.zero_le _
  · rw [topF_app]; exact h.low t (by simp)

theorem Spot.range {B T : Nat} {w : World} {bv : Value} {G : List (List Nat)} {t : List Nat} {off n : Nat} {ad : Option Addr} {g lo : Nat} (h : Spot B T w bv G t off n ad g lo) (ht : off + n ≤ t.length) : w.rangeAt g lo (cellsL (subL t off n)) := by
  intro j v hv
  obtain ⟨hj, rfl⟩ := cellsL_get _ j v hv
  rw [subL_length ht] at hj
  rw [h.cell j hj, subL_get hj]; rfl
theorem Spot.there {B T : Nat} {w : World} {bv : Value} {G : List (List Nat)} {t : List Nat} {off n : Nat} {ad : Option Addr} {g lo : Nat} (h : Spot B T w bv G t off n ad g lo) : w.there g lo n :=
  fun j hj => ⟨by rw [h.cell j hj]; rfl, h.free j⟩
theorem Spot.rd {B T : Nat} {w : World} {bv : Value} {G : List (List Nat)} {t : List Nat} {off n : Nat} {ad : Option Addr} {g lo : Nat} (h : Spot B T w bv G t off n ad g lo) (ht : off + n ≤ t.length) (hd : D.Dig t) : Rd w ad n (subL t off n) :=
  ⟨subL_length ht, fun i hi => ⟨g, lo, h.ad (by omega), h.lt (by omega), by rw [subL_get hi]; exact h.cell i hi⟩, subL_dig hd⟩

theorem byteV_cellsL (L : List Nat) : L.map byteV = cellsL L := rfl

theorem wpList_arrayAt {w : World} {ops : Array Oper} {rest : List Oper} {op : Oper} {a : Act} {Q : Exit → Act → World → Prop} (hgd : op.guard = none) (x : Operand) (ho : op.op = .sliceToArrayPointer 28 x) (ad : Option Addr) (len cap : Nat) (hx : a.eval x = .slice ad len cap) (hn : 32 ≤ len)
    (hK : wpList Safg.prog ops Q rest (a.put op.dst (.pointer ad)) w) : wpList Safg.prog ops Q (op :: rest) a w := by
  refine wpList_plain hgd fun K hK' => ?_
  have hrun := run_arrayAt (P := Safg.prog) w 28 5 32 ad len cap Safg.underlying28 hn
  unfold Oper.wp
  simp only [execOp, ho, hx, Sem.run_bind, hrun, Result.andThen_ok, Sem.run_pure, Oper.upon_value]
  exact hK' _ _ hK

theorem Safg.zero28 : (Safg.prog.info? 28).map (·.zero) = some (some (arrV (List.replicate 32 0))) := by kernel_rfl
theorem Safg.size28 : (Safg.prog.info? 28).map (·.size) = some 32 := by kernel_rfl
theorem Safg.some5 : (Safg.prog.info? 5).isSome = true := by kernel_rfl

/-- What Load32 answers. -/
def wordF (F : List (List Nat)) (off : Nat) : List Nat := if hasF F off 32 = true then subL (topF F) off 32 else List.replicate 32 0

theorem wordF_no {F : List (List Nat)} {off : Nat} (h : hasF F off 32 = false) : wordF F off = List.replicate 32 0 := by unfold wordF; rw [if_neg (by rw [h]; simp)]
theorem wordF_yes {F : List (List Nat)} {off : Nat} (h : hasF F off 32 = true) : wordF F off = subL (topF F) off 32 := by unfold wordF; rw [if_pos h]

set_option maxHeartbeats 1000000 in
theorem aStore8 (w : World) (B T : Nat) (bv : Value) (buf base : List Nat) (F : List (List Nat)) (h : ArF B T w bv buf base F) (off b : Nat) (ho : off < 4294967296) (hb : b < 256) :
    Calls Safg.prog 57 #[.pointer (some ⟨T, 0, none⟩), .int .u32 (off : Int), .int .u8 (b : Int)] w fun e w' => e = .returned (.bool (hasF F off 1)) ∧ APost B T w w' bv (putIf F off 1 [b]) := by
  obtain ⟨q, HQ⟩ : ∃ q, Hid (hasF F off 1 = q) := ⟨_, rfl⟩
  rw [HQ.out]
  go_enter Safg.func57, Safg.ntmps57
  go_wp2_with fail
  refine (part_both w B T bv buf base F h off 1 ho (by omega)).mono ?_
  rintro e w1 ⟨s1, ⟨h1, rfl⟩ | ⟨h1, h2, ad, g, lo, rfl, sp⟩⟩
  · obtain rfl : q = false := HQ.out.symm.trans h1
    clear h1
    go_wp2
    go_ret
    exact ⟨rfl, by rw [putIf_no HQ.out]; exact h.stay s1⟩
  · have c := sp.cell 0 (by omega)
    have f := sp.free 0
    have hput := sp.put [b] rfl (by intro d hd; simp at hd; omega)
    obtain rfl := sp.ad (by omega)
    rw [Nat.add_zero] at c f
    obtain rfl : q = true := HQ.out.symm.trans h1
    have HP : Hid (∀ (w' : World), Same (w1.setCells g lo (List.map byteV [b])) w' → APost B T w1 w' bv (F.dropLast ++ [layL (topF F) off [b]])) := hput
    clear hput sp h1
    go_wp2
    go_ret
    exact ⟨rfl, by rw [putIf_yes HQ.out]; exact APost.after h.ar.lt (s1.below _) (HP.out _ (Same.refl _))⟩

set_option maxHeartbeats 1000000 in
theorem aLoad32 (w : World) (B T : Nat) (bv : Value) (buf base : List Nat) (F : List (List Nat)) (h : ArF B T w bv buf base F) (off : Nat) (ho : off < 4294967296) :
    Calls Safg.prog 55 #[.pointer (some ⟨T, 0, none⟩), .int .u32 (off : Int)] w fun e w' => e = .returned (.tuple #[arrV (wordF F off), .bool (hasF F off 32)]) ∧ Below w.heap.size w w' := by
  obtain ⟨q, HQ⟩ : ∃ q, Hid (hasF F off 32 = q) := ⟨_, rfl⟩
  rw [HQ.out]
  obtain ⟨W, HW⟩ : ∃ W, Hid (wordF F off = W) := ⟨_, rfl⟩
  rw [HW.out]
  go_enter Safg.func55, Safg.ntmps55
  go_upto_region 1 with (refine wpList_alloc_arr rfl 28 rfl 32 Safg.zero28 ?_; intro w1 g1 hg1 o1 b1)
  have h1 := h.below b1
  go_wp2_with fail
  refine (part_both w1 B T bv buf base F h1 off 32 ho (by omega)).mono ?_
  rintro e w2 ⟨s2, ⟨h2, rfl⟩ | ⟨h2, h3, ad, g, lo, rfl, sp⟩⟩
  · have o2 := s2.own o1
    obtain rfl : q = false := HQ.out.symm.trans h2
    obtain rfl : W = List.replicate 32 0 := HW.out.symm.trans (wordF_no h2)
    clear h2
    go_wp2_with (first | (refine wpList_build0_arr rfl 28 rfl 32 5 Safg.underlying28 Safg.some5 Safg.zero28 ?_) | (refine wpList_store_arr rfl 28 _ _ rfl g1 rfl _ _ rfl o2 (by simp) Safg.size28 ?_; intro w3 o3 b3))
    have hload := run_loadVar_mid (P := Safg.prog) w3 g1 0 28 _ _ o3.range Safg.underlying28 rfl (by rw [cellsL_length]; exact Safg.size28)
    refine bodyPost_ret (v := .tuple #[arrV (List.replicate 32 0), .bool false]) ?_ rfl ⟨rfl, (b1.trans ((s2.below _))).trans (b3.below hg1)⟩
    rw [results_cell_tmp Safg.results55]
    simp [asAddr, hload, arrV]
  · have o2 := s2.own o1
    have hr := sp.range h3
    obtain rfl := sp.ad (by omega)
    have hl := subL_length h3
    obtain rfl : q = true := HQ.out.symm.trans h2
    obtain rfl : W = subL (topF F) off 32 := HW.out.symm.trans (wordF_yes h2)
    clear h2 sp
    go_wp2_with (first | (refine wpList_arrayAt rfl _ rfl _ 32 32 rfl (Nat.le_refl _) ?_) | (refine wpList_load_mid rfl 28 _ rfl g lo rfl (cellsL (subL (topF F) off 32)) _ hr Safg.underlying28 rfl (by rw [cellsL_length, hl]; exact Safg.size28) ?_) | (refine wpList_store_arr rfl 28 _ _ rfl g1 rfl _ (subL (topF F) off 32) rfl o2 (by simp [hl]) Safg.size28 ?_; intro w3 o3 b3))
    have hload := run_loadVar_mid (P := Safg.prog) w3 g1 0 28 _ _ o3.range Safg.underlying28 rfl (by rw [cellsL_length, hl]; exact Safg.size28)
    refine bodyPost_ret (v := .tuple #[arrV (subL (topF F) off 32), .bool true]) ?_ rfl ⟨rfl, (b1.trans ((s2.below _))).trans (b3.below hg1)⟩
    rw [results_cell_tmp Safg.results55]
    simp [asAddr, hload, arrV]
end Go.Proofs.Ygcsaf
