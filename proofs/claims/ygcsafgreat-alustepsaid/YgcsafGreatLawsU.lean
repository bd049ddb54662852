/-
  LAWS FOR THE DIVISION's WALK: 'clear' and 'copy' of limbs, stores of what already lies there, two results in cells.
-/
import Derived.Test.YgcsafGreatDivP
import Derived.Test.YgcsafGreatTurn
import Derived.Laws.Cover3
namespace Go.Proofs.YgcsafGreat
open Go.RowKit
set_option linter.unusedVariables false
set_option linter.unusedSimpArgs false

theorem setCell_self {w : World} {g o : Nat} {v : Value} (h : w.cell? ⟨g, o, none⟩ = some v) : w.setCell ⟨g, o, none⟩ v = w := by
  have key : (w.setCell ⟨g, o, none⟩ v).heap = w.heap := by
    unfold World.cell? at h
    apply Array.ext_getElem?
    intro i
    simp only [World.setCell]
    rw [Array.getElem?_modify]
    by_cases e : g = i
    · subst e
      cases hb : w.heap[g]? with
      | none => simp [hb] at h
      | some b =>
        cases b with
        | cells c t f =>
          simp [hb] at h
          have hc : c.setIfInBounds o v = c := by
            apply Array.ext_getElem?
            intro i
            rw [Array.getElem?_setIfInBounds]
            split
            · rename_i e; subst e; split
              · exact h.symm
              · rename_i hlt; rw [Array.getElem?_eq_none (by omega)] at h; cases h
            · rfl
          simp [hc]
        | _ => simp [hb] at h
    · simp [e]
  have e : w.setCell ⟨g, o, none⟩ v = { w with heap := (w.setCell ⟨g, o, none⟩ v).heap } := rfl
  rw [e, key]
theorem setCells_self {w : World} {g : Nat} : ∀ (cs : List Value) (o : Nat), w.rangeAt g o cs → w.setCells g o cs = w
  | [], _, _ => rfl
  | v :: r, o, h => by
    have h0 : w.cell? ⟨g, o, none⟩ = some v := by
      have := h 0 v rfl
      rwa [Nat.add_zero] at this
    rw [World.setCells, setCell_self h0]
    exact setCells_self r (o + 1) fun j u hu => by
      have := h (j + 1) u (by simpa using hu)
      rwa [show o + (j + 1) = o + 1 + j by omega] at this

theorem zeroCells_u64 (n : Nat) : (Builtin.zeroCells #[Value.int .u64 0] n).toList = List.replicate n (Value.int .u64 0) := by
  unfold Builtin.zeroCells
  apply List.ext_getElem
  · simp
  · intro j h1 h2
    simp at h1 h2 ⊢
    rw [show j % 1 = 0 by omega]
    rfl
theorem cellsU_zero (n : Nat) : cellsU (List.replicate n 0) = List.replicate n (Value.int .u64 0) := by simp [cellsU]

theorem wpList_clearU {w : World} {ops : Array Oper} {rest : List Oper} {o : Oper} {a : Act} {Q : Exit → Act → World → Prop} (hgd : o.guard = none) (x : Operand)
    (ho : o.op = .call { callee := .builtin .clear, args := #[x], argTypes := #[338] })
    (g n c : Nat) (hx : a.eval x = .slice (some ⟨g, 0, none⟩) (n + 1) c) (L : List Nat) (hL : L.length = n + 1) (own : OwnU w g L)
    (hK : ∀ w', OwnU w' g (List.replicate (n + 1) 0) → Only g w w' → wpList Safg.prog ops Q rest (a.put o.dst (.tuple #[])) w') :
    wpList Safg.prog ops Q (o :: rest) a w := by
  refine wpList_plain hgd fun K hK' => ?_
  have hrun : (Builtin.clear_ #[338] o.type #[.slice (some ⟨g, 0, none⟩) (n + 1) c]).run Safg.prog w = .ok (.tuple #[]) (w.setCells g 0 (List.replicate (n + 1) (.int .u64 0))) := by
    have hst := run_storeCells_cells (P := Safg.prog) g 0 (List.replicate (n + 1) (.int .u64 0)) 0 w (by
      intro j hj
      rw [Nat.zero_add, own.cell _ (by rw [hL]; simpa using hj)]; rfl) (by intro j hj; exact own.free _) (by simp [Value.oneCell'])
    have hz : (zeroValue 31).run Safg.prog w = .ok (.int .u64 0) w := by kernel_rfl
    simp [Builtin.clear_, run_underlying Safg.underlying338, hz, zeroCells_u64, Value.cells]
    rw [hst]
    rfl
  unfold Oper.wp
  simp [execOp, ho, resolve, invoke, builtin, hx, hrun, Result.andThen]
  refine hK' _ _ (hK _ ?_ (Only.setCells _ 0 (Only.refl _ _)))
  have := own.blk.store (cs' := cellsU (List.replicate (n + 1) 0)) (by rw [cellsU_length, cellsU_length, List.length_replicate, hL])
  rw [← cellsU_zero]
  exact this.ownU

/-- 'copy(dst, src)' of limbs, dst from its head. -/
theorem wp_copyU {w : World} {o : Oper} {a : Act} {K : Act → World → Prop} {Q : Exit → Act → World → Prop} (d s : Operand)
    (ho : o.op = .call { callee := .builtin .copy, args := #[d, s], argTypes := #[338, 338] })
    (g h n dCap m sCap : Nat) (hd : a.eval d = .slice (some ⟨g, 0, none⟩) n dCap) (hs : a.eval s = .slice (some ⟨h, 0, none⟩) m sCap) (hk : m ≤ n)
    (D L : List Nat) (hD : D.length = n) (hL : L.length = m) (od : OwnU w g D) (os : OwnU w h L)
    (hK : ∀ w', OwnU w' g (L ++ D.drop m) → Only g w w' → K (a.put o.dst (.int .i64 (m : Int))) w') : o.wp Safg.prog a w K Q := by
  have hrun := run_copy_cells (P := Safg.prog) w 338 338 o.type 31 g 0 n dCap ⟨h, 0, none⟩ m sCap (cellsU L) Safg.underlying338 (by kernel_rfl) (by rw [cellsU_length, hL]; exact (Nat.min_eq_left hk).symm)
    (fun j v hv => by
      obtain ⟨hj, rfl⟩ := cellsU_get L j v hv
      rw [Addr.add_mid, Nat.zero_add]; exact os.cell j hj)
    (fun j hj => by rw [cellsU_length, hL] at hj; rw [Nat.zero_add, od.cell j (by omega)]; rfl) (fun j hj => od.free _) (cellsU_one L)
  rw [cellsU_length, hL] at hrun
  unfold Oper.wp
  simp [execOp, ho, resolve, invoke, builtin, hd, hs, hrun, Result.andThen]
  refine hK _ ?_ (Only.setCells _ 0 (Only.refl _ _))
  refine ⟨?_, fun j hj => ?_, fun o => by rw [World.frozen?_setCells]; exact od.free o⟩
  · have := (Only.setCells (g := g) (cellsU L) (a := w) (w := w) 0 (Only.refl _ _)).size
    rw [this]; exact od.lt
  · have hj' : j < n := by simp at hj; omega
    by_cases e : j < m
    · have h1 := World.cell?_setCells_in g (cellsU L) 0 w (fun i hi => by rw [cellsU_length, hL] at hi; rw [Nat.zero_add, od.cell i (by omega)]; rfl) j (by rw [cellsU_length, hL]; exact e)
      rw [Nat.zero_add] at h1
      have hjl : j < (cellsU L).length := by rw [cellsU_length, hL]; exact e
      rw [h1, (cellsU_get L j _ (List.getElem?_eq_getElem hjl)).2]
      have : (L ++ D.drop m).getD j 0 = L.getD j 0 := by
        simp only [List.getD_eq_getElem?_getD]
        rw [List.getElem?_append_left (by omega)]
      rw [this]
    · rw [World.cell?_setCells_out g (cellsU L) 0 w ⟨g, j, none⟩ (fun _ _ => by show j < 0 ∨ _ ≤ j; rw [cellsU_length, hL]; omega), od.cell j (by omega)]
      have : (L ++ D.drop m).getD j 0 = D.getD j 0 := by
        simp only [List.getD_eq_getElem?_getD]
        rw [List.getElem?_append_right (by omega), List.getElem?_drop, show m + (j - L.length) = j by omega]
      rw [this]

set_option maxRecDepth 100000 in
theorem Safg.zero351 : (Safg.prog.info? 351).map (·.zero) = some (some (.agg [Value.int .u8 0, .int .u8 0, .int .u8 0].toArray)) := by kernel_rfl
set_option maxRecDepth 100000 in
theorem Safg.size351 : (Safg.prog.info? 351).map (·.size) = some 3 := by kernel_rfl
set_option maxRecDepth 100000 in
theorem Safg.zero435 : (Safg.prog.info? 435).map (·.zero) = some (some (.agg (cellsU (List.replicate 9 0)).toArray)) := by kernel_rfl
set_option maxRecDepth 100000 in
theorem Safg.size435 : (Safg.prog.info? 435).map (·.size) = some 9 := by kernel_rfl

theorem results_cell2 {fn : Func} {p q : Tmp} {ty ty' : TypeId} (h : fn.results = #[.cell p ty, .cell q ty']) (tmps : Array Value) (w : World) (g g' : Nat) (cs cs' : List Value) (d d' : TypeDesc) (hp : tmps.getD p undef = .pointer (some ⟨g, 0, none⟩)) (hq : tmps.getD q undef = .pointer (some ⟨g', 0, none⟩)) (hb : Blk w g cs) (hb' : Blk w g' cs')
    (hu : Safg.prog.underlying ty = some d) (hd : d.isRow = true) (hi : (Safg.prog.info? ty).map (·.size) = some cs.length) (hu' : Safg.prog.underlying ty' = some d') (hd' : d'.isRow = true) (hi' : (Safg.prog.info? ty').map (·.size) = some cs'.length) : (results fn tmps).run Safg.prog w = .ok (.tuple #[.agg cs.toArray, .agg cs'.toArray]) w := by
  have hp' : tmps[p]?.getD undef = .pointer (some ⟨g, 0, none⟩) := by simpa using hp
  have hq' : tmps[q]?.getD undef = .pointer (some ⟨g', 0, none⟩) := by simpa using hq
  simp [results, h, hp', hq', asAddr, run_loadVar_mid w g 0 ty cs d hb.cell hu hd hi, run_loadVar_mid w g' 0 ty' cs' d' hb'.cell hu' hd' hi']

/-- A slice seen as an array. -/
theorem wpList_arrayPtr {w : World} {ops : Array Oper} {rest : List Oper} {o : Oper} {a : Act} {Q : Exit → Act → World → Prop} (hgd : o.guard = none) (ty : TypeId) (x : Operand) (ho : o.op = .sliceToArrayPointer ty x)
    (ad : Option Addr) (len cap n : Nat) (e : TypeId) (hx : a.eval x = .slice ad len cap) (hu : Safg.prog.underlying ty = some (.array n e)) (hn : n ≤ len)
    (hK : wpList Safg.prog ops Q rest (a.put o.dst (.pointer ad)) w) : wpList Safg.prog ops Q (o :: rest) a w := by
  refine wpList_plain hgd fun K hK' => ?_
  unfold Oper.wp
  simp only [execOp, ho, hx, Sem.run_bind, run_arrayAt (P := Safg.prog) (w := w) ty e n ad len cap hu hn, Result.andThen_ok, Sem.run_pure, Oper.upon_value]
  exact hK' _ _ hK
end Go.Proofs.YgcsafGreat
