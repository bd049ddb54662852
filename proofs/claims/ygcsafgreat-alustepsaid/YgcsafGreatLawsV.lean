/-
  LAWS FOR THE VAULT's WALKS: '[]T{v}', a one-cell load, two operations that may come up.
-/
import Derived.Test.YgcsafGreatVRead
import Derived.Great.BuildSlice
namespace Go.Proofs.YgcsafGreat
open Go.RowKit
set_option linter.unusedVariables false
set_option linter.unusedSimpArgs false

/-- '[]T{v}'. -/
theorem wpList_slice1 {w : World} {ops : Array Oper} {rest : List Oper} {o : Oper} {a : Act} {Q : Exit → Act → World → Prop} (hgd : o.guard = none) (t e : TypeId) (x : Operand) (ho : o.op = .buildSlice t 1 #[(0, x)]) (cs : List Value) (hx : a.eval x = .agg cs.toArray)
    (hu : Safg.prog.underlying t = some (.slice e)) (hsz : (Safg.prog.info? e).map (·.size) = some cs.length) (hz : ((Safg.prog.info? e).bind (·.zero)).map (·.cells.size) = some cs.length) (hpos : 0 < cs.length) (hsmall : cs.length ≤ 65536)
    (hK : ∀ w' g, w.heap.size ≤ g → Blk w' g cs → Below w.heap.size w w' → wpList Safg.prog ops Q rest (a.put o.dst (.slice (some ⟨g, 0, none⟩) 1 1)) w') :
    wpList Safg.prog ops Q (o :: rest) a w := by
  obtain ⟨ie, hie, hs⟩ := Option.map_eq_some_iff.1 hsz
  rw [hie] at hz
  obtain ⟨z, hzz, hzs⟩ := Option.map_eq_some_iff.1 hz
  have hzz' : ie.zero = some z := by simpa using hzz
  refine wpList_buildSlice hgd t e 1 _ ho cs.toArray ie z hu hie hzz' (by rw [hs]; omega) (by rw [hs]; omega) ?_ ?_
  · have hp : (#[(0, x)].map fun (i, x) => (i, a.eval x)).toList = ([Value.agg cs.toArray].zipIdx 0).map fun x => (x.2, x.1) := by
      simp [hx]
    have := Great.fill_whole (s := ie.size) (by rw [hs]; omega) [Value.agg cs.toArray] ((Array.range (1 * ie.size)).map (z.cells[· % z.cells.size]!)) (by simp [Value.cells, hs]) (by simp)
    rw [hp]
    simpa [Value.cells] using this
  · exact hK _ _ (Nat.le_refl _) (Blk.alloc w cs e) ((Below.refl _ _).alloc (Nat.le_refl _) _)

/-- Two may come up: by laws on 'wpList'. -/
theorem wpAnyH_list2 {P : Program} {ops : Array Oper} {Q : Exit → Act → World → Prop} {md : Region.Mode} {S : World → Prop} (i j : Nat) {o o' : Oper} {r r' : List Oper} {fuel : Nat} {listed : Array Bool} {a : Act} {w : World} (hr : Region.ready md ops listed = [i, j]) (ho : ops.toList.drop i = o :: r) (ho' : ops.toList.drop j = o' :: r')
    (hw : o.guard = none) (hw' : o'.guard = none) (h : wpList P ops (backTo P md ops Q S fuel (listed.setIfInBounds i true)) [o] a w) (h' : wpList P ops (backTo P md ops Q S fuel (listed.setIfInBounds j true)) [o'] a w) : wpAnyH P md ops Q S (fuel + 1) listed a w := by
  refine wpAnyH_all hr (by simp) fun k hk => ?_
  rcases (by simpa using hk : k = i ∨ k = j) with rfl | rfl
  · unfold Go.wpOp
    simp only [op_at ho, wanted_plain hw, if_true]
    unfold wpList at h
    simp only [wanted_plain hw, if_true] at h
    rcases h with h | ⟨h1, a', w', h2⟩
    · exact .inl (wp_swapQ (fun c a w h => h) (fun ⟨a', w', h⟩ => ⟨a', w', h⟩) h)
    · exact .inr ⟨h1, a', w', h2⟩
  · unfold Go.wpOp
    simp only [op_at ho', wanted_plain hw', if_true]
    unfold wpList at h'
    simp only [wanted_plain hw', if_true] at h'
    rcases h' with h | ⟨h1, a', w', h2⟩
    · exact .inl (wp_swapQ (fun c a w h => h) (fun ⟨a', w', h⟩ => ⟨a', w', h⟩) h)
    · exact .inr ⟨h1, a', w', h2⟩
/-- One may come up: what follows behind a letter. -/
theorem wpAnyH_oneK {P : Program} {ops : Array Oper} {Q : Exit → Act → World → Prop} {md : Region.Mode} {S : World → Prop} (i : Nat) {o : Oper} {r : List Oper} {fuel : Nat} {listed : Array Bool} {a : Act} {w : World} (hr : Region.ready md ops listed = [i]) (ho : ops.toList.drop i = o :: r)
    (hw : o.guard = none) (h : ∀ K : Act → World → Prop, Shut (∀ a w, S w → wpAnyH P md ops Q S fuel (listed.setIfInBounds i true) a w → K a w) → Oper.wp P o a w K Q) : wpAnyH P md ops Q S (fuel + 1) listed a w :=
  wpAnyH_one i hr ho hw (h _ (fun a w h1 h2 => ⟨h1, h2⟩))
/-- The same by a law on 'wpList'. -/
theorem wpAnyH_twoK {P : Program} {ops : Array Oper} {Q : Exit → Act → World → Prop} {md : Region.Mode} {S : World → Prop} (i j : Nat) {o o' : Oper} {r r' : List Oper} {fuel : Nat} {listed : Array Bool} {a : Act} {w : World} (hr : Region.ready md ops listed = [i, j]) (ho : ops.toList.drop i = o :: r) (ho' : ops.toList.drop j = o' :: r')
    (hw : o.guard = none) (hw' : o'.guard = none) (h : ∀ K : Act → World → Prop, Shut (∀ a w, S w → wpAnyH P md ops Q S fuel (listed.setIfInBounds i true) a w → K a w) → Oper.wp P o a w K Q) (h' : wpList P ops (backTo P md ops Q S fuel (listed.setIfInBounds j true)) [o'] a w) : wpAnyH P md ops Q S (fuel + 1) listed a w := by
  refine wpAnyH_all hr (by simp) fun k hk => ?_
  rcases (by simpa using hk : k = i ∨ k = j) with rfl | rfl
  · unfold Go.wpOp
    simp only [op_at ho, wanted_plain hw, if_true]
    exact .inl (h _ (fun a w h1 h2 => ⟨h1, h2⟩))
  · unfold Go.wpOp
    simp only [op_at ho', wanted_plain hw', if_true]
    unfold wpList at h'
    simp only [wanted_plain hw', if_true] at h'
    rcases h' with h | ⟨h1, a', w', h2⟩
    · exact .inl (wp_swapQ (fun c a w h => h) (fun ⟨a', w', h⟩ => ⟨a', w', h⟩) h)
    · exact .inr ⟨h1, a', w', h2⟩
end Go.Proofs.YgcsafGreat
