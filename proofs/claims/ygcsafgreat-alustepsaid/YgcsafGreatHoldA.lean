/-
  law.aluStepHolds (10).
-/
import Derived.Test.YgcsafGreatHold0
import Derived.Test.YgcsafGreatMeet
import Derived.Test.YgcsafGreatStep4
namespace Go.Proofs.YgcsafGreat
open Go.RowKit
set_option linter.unusedVariables false
set_option linter.unusedSimpArgs false

/-- One block and five letters are made on the way. -/
theorem wpAnyH_to6 {P : Program} {md : Region.Mode} {ops : Array Oper} {Q : Exit → Act → World → Prop} {S : World → Prop} (A : Nat → Option Addr → Option Addr → Option Addr → Option Addr → Nat → Act) (F : Nat → World → Prop) {fuel : Nat} {listed : Array Bool} {a : Act} {w : World}
    (h : wpAnyH P md ops (NormQ fun a w => ∃ g a1 a2 a3 a4 n, a = A g a1 a2 a3 a4 n ∧ F g w) S fuel listed a w) (hn : ∀ g a1 a2 a3 a4 n w, F g w → Q .normal (A g a1 a2 a3 a4 n) w) : wpAnyH P md ops Q S fuel listed a w :=
  wpAnyH_swapQ (fun a w ⟨g, a1, a2, a3, a4, n, e, hf⟩ => by rw [e]; exact hn g a1 a2 a3 a4 n w hf) (fun c a w h => absurd h id) (fun ⟨a, w, h⟩ => absurd h id) _ _ _ _ h
/-- What stays while the law looks. -/
structure HK (w : World) (g7 g8 g9 g10 g11 gB gS k : Nat) (A B C : List Nat) (V1 V2 : List Value) (ws ws' : Nat → Wd4) : Prop where
  o7 : Own w g7 A
  o8 : Own w g8 B
  o9 : Own w g9 C
  k10 : Blk w g10 V1
  k11 : Blk w g11 V2
  sB : StB w gB 3 3 ws
  sS : StB w gS k k ws'
theorem HK.turn {w w' : World} {S : List Nat} {g7 g8 g9 g10 g11 gB gS k : Nat} {A B C : List Nat} {V1 V2 : List Value} {ws ws' : Nat → Wd4} (h : HK w g7 g8 g9 g10 g11 gB gS k A B C V1 V2 ws ws') (t : Turn S w w') (n7 : g7 ∉ S) (n8 : g8 ∉ S) (n9 : g9 ∉ S) (n10 : g10 ∉ S) (n11 : g11 ∉ S) (nB : gB ∉ S) (nS : gS ∉ S) : HK w' g7 g8 g9 g10 g11 gB gS k A B C V1 V2 ws ws' :=
  ⟨t.own h.o7 n7, t.own h.o8 n8, t.own h.o9 n9, OS.blk_turn h.k10 t n10, OS.blk_turn h.k11 t n11, h.sB.turn t nB, h.sS.turn t nS⟩
theorem HK.below {w w' : World} {g7 g8 g9 g10 g11 gB gS k : Nat} {A B C : List Nat} {V1 V2 : List Value} {ws ws' : Nat → Wd4} (h : HK w g7 g8 g9 g10 g11 gB gS k A B C V1 V2 ws ws') (b : Below w.heap.size w w') : HK w' g7 g8 g9 g10 g11 gB gS k A B C V1 V2 ws ws' :=
  h.turn (Turn.of_below b (Nat.le_refl _) []) (by simp) (by simp) (by simp) (by simp) (by simp) (by simp) (by simp)
/-- A fresh block turns. -/
theorem HK.only {w w' : World} {g g7 g8 g9 g10 g11 gB gS k : Nat} {A B C : List Nat} {V1 V2 : List Value} {ws ws' : Nat → Wd4} (h : HK w g7 g8 g9 g10 g11 gB gS k A B C V1 V2 ws ws') (n : Only g w w') (hg : g7 ≠ g ∧ g8 ≠ g ∧ g9 ≠ g ∧ g10 ≠ g ∧ g11 ≠ g ∧ gB ≠ g ∧ gS ≠ g) : HK w' g7 g8 g9 g10 g11 gB gS k A B C V1 V2 ws ws' :=
  h.turn (Turn.of_only n) (by simpa using hg.1) (by simpa using hg.2.1) (by simpa using hg.2.2.1) (by simpa using hg.2.2.2.1) (by simpa using hg.2.2.2.2.1) (by simpa using hg.2.2.2.2.2.1) (by simpa using hg.2.2.2.2.2.2)
theorem HK.fresh {w : World} {g g7 g8 g9 g10 g11 gB gS k : Nat} {A B C : List Nat} {V1 V2 : List Value} {ws ws' : Nat → Wd4} (h : HK w g7 g8 g9 g10 g11 gB gS k A B C V1 V2 ws ws') (hg : w.heap.size ≤ g) : g7 ≠ g ∧ g8 ≠ g ∧ g9 ≠ g ∧ g10 ≠ g ∧ g11 ≠ g ∧ gB ≠ g ∧ gS ≠ g := by
  have := h.o7.lt; have := h.o8.lt; have := h.o9.lt; have := h.k10.lt; have := h.k11.lt; have := h.sB.lt; have := h.sS.lt
  refine ⟨?_, ?_, ?_, ?_, ?_, ?_, ?_⟩ <;> omega
theorem vL_pc (p q gas : Nat) (st : Value) : (vL p gas st).set 3 (.int .u16 (q : Int)) = vL q gas st := rfl
theorem vL_gas (p gas gas' : Nat) (st : Value) : (vL p gas st).set 4 (.int .u64 (gas' : Int)) = vL p gas' st := rfl
theorem rowB_at (a : Wd4) {j : Nat} {v : Value} (h : (cellsL (beL a))[j]? = some v) : j < 32 := by
  have := (List.getElem?_eq_some_iff.1 h).1
  rwa [cellsL_length, beL_length] at this
theorem get_1 (a : Wd4) (R : List Value) {j : Nat} {v : Value} (h : (cellsL (beL a))[j]? = some v) : (cellsL (beL a) ++ R)[j]? = some v := by
  rw [List.getElem?_append_left (List.getElem?_eq_some_iff.1 h).1]; exact h
theorem get_2 (a : Wd4) (R : List Value) (j : Nat) : (cellsL (beL a) ++ R)[32 + j]? = R[j]? := by
  rw [List.getElem?_append_right (by rw [cellsL_length, beL_length]; omega), cellsL_length, beL_length, Nat.add_sub_cancel_left]
theorem stb_1 {w : World} {g cap : Nat} {f : Nat → Wd4} (h : RowV w g cap (cellsL (beL (f 0)))) : StB w g 1 1 f :=
  ⟨h.lt, h.free, fun j hj k v hv => by
    obtain rfl : j = 0 := by omega
    rw [if_pos (by omega)] at hv
    rw [Nat.zero_mul, Nat.zero_add]
    exact h.cell k v hv⟩
theorem stb_2 {w : World} {g cap : Nat} {f : Nat → Wd4} (h : RowV w g cap (cellsL (beL (f 0)) ++ cellsL (beL (f 1)))) : StB w g 2 2 f :=
  ⟨h.lt, h.free, fun j hj k v hv => by
    rw [if_pos hj] at hv
    rcases (by omega : j = 0 ∨ j = 1) with rfl | rfl
    · rw [Nat.zero_mul, Nat.zero_add]
      exact h.cell k v (get_1 _ _ hv)
    · rw [Nat.one_mul]
      exact h.cell (32 + k) v (by rw [get_2]; exact hv)⟩
theorem stb_3 {w : World} {g cap : Nat} {f : Nat → Wd4} (h : RowV w g cap (cellsL (beL (f 0)) ++ (cellsL (beL (f 1)) ++ cellsL (beL (f 2))))) : StB w g 3 3 f :=
  ⟨h.lt, h.free, fun j hj k v hv => by
    rw [if_pos hj] at hv
    rcases (by omega : j = 0 ∨ j = 1 ∨ j = 2) with rfl | rfl | rfl
    · rw [Nat.zero_mul, Nat.zero_add]
      exact h.cell k v (get_1 _ _ hv)
    · rw [Nat.one_mul]
      exact h.cell (32 + k) v (by rw [get_2]; exact get_1 _ _ hv)
    · rw [show 2 * 32 + k = 32 + (32 + k) by omega]
      exact h.cell (32 + (32 + k)) v (by rw [get_2, get_2]; exact hv)⟩
theorem news_1 {w : World} {g : Nat} {ws : Nat → Wd4} (h : StB w g 3 3 ws) : ∀ j u, (cellsL (beL (ws 0)))[j]? = some u → w.cell? ((⟨g, 0, none⟩ : Addr).add j) = some u := fun j u hu => by
  have := h.row 0 (by omega) j u (by rw [if_pos (by omega)]; exact hu)
  rw [Addr.add_mid]
  rwa [Nat.zero_mul] at this
theorem news_2 {w : World} {g : Nat} {ws : Nat → Wd4} (h : StB w g 3 3 ws) : ∀ j u, (cellsL (beL (ws 0)) ++ cellsL (beL (ws 1)))[j]? = some u → w.cell? ((⟨g, 0, none⟩ : Addr).add j) = some u := fun j u hu => by
  rw [Addr.add_mid]
  by_cases e : j < 32
  · rw [List.getElem?_append_left (by rw [cellsL_length, beL_length]; exact e)] at hu
    have := h.row 0 (by omega) j u (by rw [if_pos (by omega)]; exact hu)
    rwa [Nat.zero_mul] at this
  · obtain ⟨t, rfl⟩ : ∃ t, j = 32 + t := ⟨j - 32, by omega⟩
    rw [get_2] at hu
    have := h.row 1 (by omega) t u (by rw [if_pos (by omega)]; exact hu)
    rwa [Nat.one_mul, ← Nat.zero_add (32 + t)] at this
theorem news_one1 (a : Wd4) : ∀ u ∈ cellsL (beL a), u.oneCell' = true := cellsL_one _
theorem news_one2 (a b : Wd4) : ∀ u ∈ cellsL (beL a) ++ cellsL (beL b), u.oneCell' = true := fun u hu => by
  rcases List.mem_append.1 hu with h | h <;> exact cellsL_one _ u h
set_option maxRecDepth 100000 in
theorem Safg.sizeOf30 (w : World) : (sizeOf 30).run Safg.prog w = .ok 1 w := by rfl
set_option maxRecDepth 100000 in
theorem Safg.sizeOf5' (w : World) : (sizeOf 5).run Safg.prog w = .ok 1 w := by rfl
theorem Safg.under30 : Safg.prog.underlying 30 = some (.int .u16) := by kernel_rfl
theorem gasN_le (o : Nat) : gasN o ≤ 10 := by
  unfold gasN
  repeat' split
  all_goals omega
theorem Safg.under5' : Safg.prog.underlying 5 = some (.int .u8) := by kernel_rfl
set_option maxRecDepth 100000 in
theorem Safg.zcells51 : ((Safg.prog.info? 51).bind (·.zero)).map (·.cells.size) = some 32 := by kernel_rfl
theorem wpList_append_nothing {w : World} {ops : Array Oper} {rest : List Oper} {o : Oper} {a : Act} {Q : Exit → Act → World → Prop} (hgd : o.guard = none) (s x : Operand)
    (ho : o.op = .call { callee := .builtin .append, args := #[s, x], argTypes := #[34, 34] }) (ad : Addr) (c : Nat) (hs : a.eval s = .slice none 0 0) (hx : a.eval x = .slice (some ad) 0 c)
    (h : wpList Safg.prog ops Q rest (a.put o.dst (.slice none 0 0)) w) : wpList Safg.prog ops Q (o :: rest) a w := by
  obtain ⟨i, hi, hz, hs1, hb⟩ := info51'
  refine wpList_plain hgd fun K hK => ?_
  have hrun : (Builtin.append_ #[34, 34] o.type #[.slice none 0 0, .slice (some ad) 0 c]).run Safg.prog w = .ok (.slice none 0 0) w := by
    simp [Builtin.append_, run_underlying Safg.under34, sizeOf, typeInfo, hi, Builtin.lenOf, Builtin.firstCells, loadCells, loadCellsFrom]
  unfold Oper.wp
  simp [execOp, ho, resolve, invoke, builtin, hs, hx, hrun, Result.andThen]
  exact hK _ _ h
theorem wpList_append_rows {w : World} {ops : Array Oper} {rest : List Oper} {o : Oper} {a : Act} {Q : Exit → Act → World → Prop} (hgd : o.guard = none) (s x : Operand)
    (ho : o.op = .call { callee := .builtin .append, args := #[s, x], argTypes := #[34, 34] }) (B : Nat) (v : Value) (k : Nat) (vs : List Value) (hs : a.eval s = v) (hv : VecS 32 B w v k vs)
    (ad : Addr) (m c : Nat) (news : List Value) (hx : a.eval x = .slice (some ad) m c) (hl : news.length = m * 32) (hnews : ∀ j u, news[j]? = some u → w.cell? (ad.add j) = some u) (h1 : ∀ u ∈ news, u.oneCell' = true)
    (hm : 0 < m) (kk : Nat) (hkk : k + m = kk) (hk8 : kk ≤ 8) (hB : B ≤ w.heap.size)
    (h : ∀ g cap w', B ≤ g → RowV w' g (cap * 32) (vs ++ news) → kk ≤ cap → cap ≤ maxLen → Turn v.ownBlock.toList w w' → (v.ownBlock = some g ∨ w.heap.size ≤ g) → wpList Safg.prog ops Q rest (a.put o.dst (.slice (some ⟨g, 0, none⟩) kk cap)) w') :
    wpList Safg.prog ops Q (o :: rest) a w := by
  obtain ⟨i, hi, hz, hs1, hb⟩ := info51'
  subst hkk
  exact wpList_append_vecS hgd s x 34 ho B 51 i _ 32 32 Safg.under34 hi hz hs1 hb rfl (by omega) v k vs hs hv ad m c news hx hl hnews h1 hm (by unfold maxLen; omega) (by omega) hB h
end Go.Proofs.YgcsafGreat
