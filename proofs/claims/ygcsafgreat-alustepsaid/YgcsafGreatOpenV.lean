/-
  The vault's steps of 'Open'.
-/
import Derived.Test.YgcsafGreatEnter2
import Derived.Test.YgcsafGreatVerdict
namespace Go.Proofs.YgcsafGreat
open Go.RowKit
set_option linter.unusedVariables false
set_option linter.unusedSimpArgs false

/-- What the vault says. -/
structure VAt (s : Vst) (L : List Ac) (t : Nat → Int) (j : Nat) : Prop where
  a : s.accts = L
  t : s.tab = t
  j : s.jn = j
  n : s.nm = 0
theorem home_1 : homeN (adr 1) = 948 := by kernel_rfl
theorem home_240 : homeN (adr 240) = 3038 := by kernel_rfl
theorem home_192 : homeN (adr 192) = 1408 := by kernel_rfl
theorem home_4 : homeN (adr 4) = 835 := by kernel_rfl
theorem home_5 : homeN (adr 5) = 2729 := by kernel_rfl
section
variable {B : Nat} {w0 w w' : World} {gm gv : Nat} {f : Nat → Value} {s : Vst} {ks : List (Nat × List Value)} {L L' acs : List Ac} {t tb : Nat → Int} {j : Nat}
theorem OS.setPost (h : OS B w0 w gm gv f s ks) (v : VAt s L t j) (hacs : acs = L') {e : Ending} (p : SetPost B w gv s acs tb e w') : e = .returned (.bool true) ∧ ∃ s2, OS B w0 w' gm gv f s2 ks ∧ VAt s2 L' tb (j + 1) := by
  obtain ⟨s2, h1, h2, h3, h4, h5, h6, h7, h8, h9⟩ := p
  exact ⟨h1, s2, h.vault h7 h6 h8 h9, ⟨h2.trans hacs, h3, by rw [h4, v.j], by rw [h5, v.n]⟩⟩
theorem oNonce (h : OS B w0 w gm gv f s ks) (v : VAt s L t j) (hj : j < 60) {A : List Nat} (hA : A.length = 20) (dA : D.Dig A) {i : Nat} {x : Ac} (hx : L[i]? = some x) (hxa : x.addr = A) (ht : t (homeN A) = (i : Int)) (n : Nat) (hn : n < 18446744073709551616) :
    Calls Safg.prog 57 #[.pointer (some ⟨gv, 0, none⟩), arrV A, .int .u64 (n : Int)] w fun e w' => e = .returned (.bool true) ∧ ∃ s2, OS B w0 w' gm gv f s2 ks ∧ VAt s2 (L.set i { x with nonce := n }) t (j + 1) :=
  (putNonce_any B w gv s h.v h.hB A hA s.accts s.tab i x n hn (acctGets_some hA dA (by rw [v.a]; exact hx) hxa (by rw [v.t]; exact ht)) (by rw [v.j]; exact hj)).mono fun e w' p => by
    rw [v.t] at p
    exact h.setPost v (by rw [v.a]) p
theorem oBal (h : OS B w0 w gm gv f s ks) (v : VAt s L t j) (hj : j < 60) {A : List Nat} (hA : A.length = 20) (dA : D.Dig A) {i : Nat} {x : Ac} (hx : L[i]? = some x) (hxa : x.addr = A) (ht : t (homeN A) = (i : Int)) (b : Wd4) (hb : b.Ok) :
    Calls Safg.prog 58 #[.pointer (some ⟨gv, 0, none⟩), arrV A, b.v] w fun e w' => e = .returned (.bool true) ∧ ∃ s2, OS B w0 w' gm gv f s2 ks ∧ VAt s2 (L.set i { x with bal := b }) t (j + 1) :=
  (putBalance_any B w gv s h.v h.hB A hA s.accts s.tab i x b hb (acctGets_some hA dA (by rw [v.a]; exact hx) hxa (by rw [v.t]; exact ht)) (by rw [v.j]; exact hj)).mono fun e w' p => by
    rw [v.t] at p
    exact h.setPost v (by rw [v.a]) p
theorem oGet (h : OS B w0 w gm gv f s ks) (v : VAt s L t j) {A : List Nat} (hA : A.length = 20) (dA : D.Dig A) {i : Nat} {x : Ac} (hx : L[i]? = some x) (hxa : x.addr = A) (ht : t (homeN A) = (i : Int)) :
    Calls Safg.prog 60 #[.pointer (some ⟨gv, 0, none⟩), arrV A] w fun e w' => e = .returned x.bal.v ∧ Below w.heap.size w w' :=
  balance_some B w gv s h.v A hA dA i x (by rw [v.a]; exact hx) hxa (by rw [v.t]; exact ht)
theorem oWarm (h : OS B w0 w gm gv f s ks) (v : VAt s L t j) (hj : j < 60) {A : List Nat} (hA : A.length = 20) (dA : D.Dig A) {i : Nat} {x : Ac} (hx : L[i]? = some x) (hxa : x.addr = A) (ht : t (homeN A) = (i : Int)) (hw : x.warm = false) :
    Calls Safg.prog 61 #[.pointer (some ⟨gv, 0, none⟩), arrV A] w fun e w' => e = .returned (.tuple #[]) ∧ ∃ s2, OS B w0 w' gm gv f s2 ks ∧ VAt s2 (L.set i { x with warm := true }) t (j + 1) := by
  have hx' : s.accts[i]? = some x := by rw [v.a]; exact hx
  have ht' : s.tab (homeN A) = (i : Int) := by rw [v.t]; exact ht
  refine (warm_any B w gv s h.v h.hB A hA s.accts s.tab i x (acctGets_some hA dA hx' hxa ht') (by rw [v.j]; exact hj) (fun w hv => (isWarm_some B w gv s hv A hA dA i x hx' hxa ht').mono fun e w' ⟨h1, h2⟩ => ⟨by rw [h1, hw], h2⟩)).mono ?_
  rintro e w' ⟨h1, s2, h2, h3, h4, h5, h6, h7, h8, h9⟩
  exact ⟨h1, s2, h.vault h7 h6 h8 h9, ⟨by rw [h2, v.a], by rw [h3, v.t], by rw [h4, v.j], by rw [h5, v.n]⟩⟩
theorem oWarmNew (h : OS B w0 w gm gv f s ks) (v : VAt s L t j) (hj : j < 60) {A : List Nat} (hA : A.length = 20) (dA : D.Dig A) (ht : t (homeN A) = -1) (hl : L.length < 8) :
    Calls Safg.prog 61 #[.pointer (some ⟨gv, 0, none⟩), arrV A] w fun e w' => e = .returned (.tuple #[]) ∧ ∃ s2, OS B w0 w' gm gv f s2 ks ∧ VAt s2 ((L ++ [newAc A]).set L.length { newAc A with warm := true }) (putTab t (homeN A) (L.length : Int)) (j + 1) := by
  have ht' : s.tab (homeN A) = -1 := by rw [v.t]; exact ht
  refine (warm_any B w gv s h.v h.hB A hA _ _ _ _ (acctGets_new hA dA ht' (by rw [v.a]; exact hl)) (by rw [v.j]; exact hj) (fun w hv => isWarm_none B w gv s hv A hA dA ht')).mono ?_
  rintro e w' ⟨h1, s2, h2, h3, h4, h5, h6, h7, h8, h9⟩
  exact ⟨h1, s2, h.vault h7 h6 h8 h9, ⟨by rw [h2, v.a], by rw [h3, v.t, v.a], by rw [h4, v.j], by rw [h5, v.n]⟩⟩
/-- A block that is none of the kept turns. -/
theorem OS.off {g : Nat} (h : OS B w0 w gm gv f s ks) (ha : Apart s gv g) (hm : g ≠ gm) (hk : ∀ p ∈ ks, p.1 ≠ g) (hB : B ≤ g) (n : Only g w w') : OS B w0 w' gm gv f s ks :=
  ⟨h.m.turn (Turn.of_only n) (by simpa using Ne.symm hm), h.v.turn (Turn.of_only n) (by simpa using Ne.symm ha.v) (fun g' hg => by simp; rintro rfl; exact ha.a hg) (fun g' hg => by simp; rintro rfl; exact ha.j hg), h.o, h.am, fun p hp => by obtain ⟨h1, h2, h3⟩ := h.ks p hp; exact ⟨blk_turn h1 (Turn.of_only n) (by simpa using hk p hp), h2, h3⟩, h.base.trans (n.below hB), by rw [n.size]; exact h.hB, h.hgm, h.hgv⟩
theorem OS.drop {p : Nat × List Value} (h : OS B w0 w gm gv f s (p :: ks)) : OS B w0 w gm gv f s ks :=
  ⟨h.m, h.v, h.o, h.am, fun q hq => h.ks q (List.mem_cons_of_mem _ hq), h.base, h.hB, h.hgm, h.hgv⟩
/-- Cells of the machine are stored. -/
theorem wpList_store_os {ops : Array Oper} {rest : List Oper} {op : Oper} {a : Act} {Q : Exit → Act → World → Prop} (h : OS B w0 w gm gv f s ks) (hgd : op.guard = none) (ty : TypeId) (x y : Operand) (ho : op.op = .store ty x y)
    (k : Nat) (cs : List Value) (hx : a.eval x = .pointer (some ⟨gm, k, none⟩)) (hy : a.eval y = .agg cs.toArray) (hk : k + cs.length ≤ 2435) (hk2 : 2380 ≤ k) (hi : (Safg.prog.info? ty).map (·.size) = some cs.length) (h1 : ∀ v ∈ cs, v.oneCell' = true)
    (hK : ∀ w', OS B w0 w' gm gv (updL f k cs) s ks → wpList Safg.prog ops Q rest (a.put op.dst undef) w') : wpList Safg.prog ops Q (op :: rest) a w := by
  refine wpList_store_mid hgd ty x y ho gm k cs.toArray hx hy ?_ (by rw [hi]; simp) (all_oneCell_toArray h1) ?_
  · have : cs.toArray.size = cs.length := by simp
    rw [this]; exact h.m.there hk
  · rw [List.toList_toArray]
    exact hK _ (h.sets cs hk hk2)
end
set_option maxRecDepth 100000 in
theorem built70 (gas : Nat) : Safg.prog.built 70 [(0, .int .u8 0), (7, .int .u64 (gas : Int)), (9, arrV (adr 1)), (10, arrV (adr 240)), (11, Wd4.zero.v)] = some (frL gas (.slice none 0 0)).toArray := by kernel_rfl
set_option maxRecDepth 100000 in
theorem Safg.zero70 : (Safg.prog.info? 70).map (·.zero) = some (some (.agg frZ.toArray)) := by kernel_rfl
theorem frL_code (gas : Nat) (v cv : Value) : (frL gas v).set 53 cv = frL gas cv := rfl
end Go.Proofs.YgcsafGreat
