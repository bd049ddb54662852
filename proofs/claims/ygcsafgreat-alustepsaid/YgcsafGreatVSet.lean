/-
  THE VAULT's CHANGES: the journal grows, an account's field is laid.
-/
import Derived.Test.YgcsafGreatAcct
namespace Go.Proofs.YgcsafGreat
open Go.RowKit
set_option linter.unusedVariables false
set_option linter.unusedSimpArgs false

/-- The journal has grown by one entry. -/
theorem VOk.jgrow {B : Nat} {w w6 : World} {gv : Nat} {s : Vst} (h : VOk B w gv s) (t : Turn s.jv.ownBlock.toList w w6) {g' cap' : Nat} {cs : List Value} (r : RowV w6 g' (cap' * 9) (s.js ++ cs)) (hcs : cs.length = 9) (hjs : s.js.length = s.jn * 9) (hB : B ≤ g') (hcap : s.jn + 1 ≤ cap') (hm : cap' ≤ maxLen) (hfew : s.jn < 64)
    (hor : s.jv.ownBlock = some g' ∨ w.heap.size ≤ g') :
    VOk B (w6.setCell ⟨gv, 8194, none⟩ (.slice (some ⟨g', 0, none⟩) (s.jn + 1) cap')) gv { s with jn := s.jn + 1, js := s.js ++ cs, jv := .slice (some ⟨g', 0, none⟩) (s.jn + 1) cap' } := by
  have hgv : gv ∉ s.jv.ownBlock.toList := by
    intro hm
    apply h.apJ
    simpa using hm
  have hne : g' ≠ gv := by
    rcases hor with h1 | h1
    · rintro rfl; exact h.apJ h1
    · have := h.lt; omega
  have e : ∀ o, w6.cell? ⟨gv, o, none⟩ = w.cell? ⟨gv, o, none⟩ := fun o => t.cell (p := ⟨gv, o, none⟩) h.lt hgv
  have hc : ∀ o, 8194 ≠ o → (w6.setCell ⟨gv, 8194, none⟩ (.slice (some ⟨g', 0, none⟩) (s.jn + 1) cap')).cell? ⟨gv, o, none⟩ = w.cell? ⟨gv, o, none⟩ := fun o ho => by rw [cell_off ho, e]
  have hat : VecS 29 B w6 s.av s.accts.length (acells s.accts) := h.vA.turn t (fun g hg hm => h.apAJ g hg (by simpa using hm))
  have hag : s.av.ownBlock ≠ some g' := by
    rcases hor with h1 | h1
    · intro ha; exact h.apAJ g' ha h1
    · intro hj
      rcases h.vA with ⟨h2, _, _⟩ | ⟨g, cap, h2, _, r2, _⟩
      · rw [h2] at hj; cases hj
      · rw [h2] at hj
        obtain rfl : g = g' := by simpa [Value.ownBlock] using hj
        have := r2.lt; omega
  refine ⟨?_, fun o => ?_, ?_, hat.far h.apA _ _, ?_, fun j hj => ?_, ?_, ?_, fun j hj => ?_, ?_, ?_, ?_, h.ok, h.few, ?_, h.apA, ?_, ?_⟩
  · simp [World.setCell]; exact Nat.lt_of_lt_of_le h.lt t.size
  · rw [World.frozen?_setCell, t.frozen (p := ⟨gv, o, none⟩) h.lt hgv]; exact h.free o
  · rw [hc 0 (by omega)]; exact h.cA
  · rw [hc 1 (by omega)]; exact h.cS
  · rw [hc (2 + j) (by omega)]; exact h.cT j hj
  · exact World.cell?_setCell_same _ _ _ (by rw [e]; exact h.cJ)
  · refine .inr ⟨g', cap', rfl, hB, r.far hne _ _, ?_, hcap, hm⟩
    show (s.js ++ cs).length = (s.jn + 1) * 9
    rw [List.length_append, hcs, hjs]; omega
  · rw [hc (8195 + j) (by omega)]; exact h.cM j hj
  · rw [hc 24579 (by omega)]; exact h.cN
  · rw [hc 24580 (by omega)]; exact h.cR
  · rw [hc 24581 (by omega)]; exact h.cL
  · show s.jn + 1 ≤ 64; omega
  · intro hh; apply hne; simpa [Value.ownBlock] using hh
  · intro g hg hj
    obtain rfl : g' = g := by simpa [Value.ownBlock] using hj
    exact hag hg
theorem VOk.jlen {B : Nat} {w : World} {gv : Nat} {s : Vst} (h : VOk B w gv s) : s.js.length = s.jn * 9 := by
  rcases h.vJ with ⟨_, h1, h2⟩ | ⟨_, _, _, _, _, h1, _⟩
  · rw [h1, h2]; rfl
  · exact h1

theorem acells_split {l : List Ac} {i : Nat} {x : Ac} (hx : l[i]? = some x) : acells l = acells (l.take i) ++ (x.cells ++ acells (l.drop (i + 1))) := by
  have hil := (List.getElem?_eq_some_iff.1 hx).1
  have e : l = l.take i ++ (x :: l.drop (i + 1)) := by
    have h1 := (List.getElem?_eq_some_iff.1 hx).2
    rw [← h1, List.getElem_cons_drop, List.take_append_drop]
  conv => lhs; rw [e]
  simp [acells]
theorem acells_set {l : List Ac} {i : Nat} {x y : Ac} (hx : l[i]? = some x) : acells (l.set i y) = acells (l.take i) ++ (y.cells ++ acells (l.drop (i + 1))) := by
  have hil := (List.getElem?_eq_some_iff.1 hx).1
  have h2 : (l.set i y)[i]? = some y := by rw [List.getElem?_set_self hil]
  rw [acells_split h2, List.take_set, List.set_eq_of_length_le (by rw [List.length_take]; omega), List.drop_set, if_pos (by omega)]
theorem laid_mid (P X R news : List Value) (f : Nat) (h : f + news.length ≤ X.length) : RowV.laid (P ++ (X ++ R)) (P.length + f) news = P ++ ((X.take f ++ (news ++ X.drop (f + news.length))) ++ R) := by
  unfold RowV.laid
  have e1 : (P ++ (X ++ R)).take (P.length + f) = P ++ X.take f := by
    rw [List.take_append, List.take_of_length_le (by omega : P.length ≤ P.length + f), Nat.add_sub_cancel_left, List.take_append, show f - X.length = 0 by omega, List.take_zero, List.append_nil]
  have e2 : (P ++ (X ++ R)).drop (P.length + f + news.length) = X.drop (f + news.length) ++ R := by
    rw [List.drop_append, List.drop_eq_nil_of_le (by omega : P.length ≤ P.length + f + news.length), List.nil_append, show P.length + f + news.length - P.length = f + news.length by omega, List.drop_append, show f + news.length - X.length = 0 by omega, List.drop_zero]
  rw [e1, e2]
  simp only [List.append_assoc]
/-- One account is laid anew: from its cell f on, the cells news. -/
theorem VOk.setAc {B : Nat} {w : World} {gv : Nat} {s : Vst} (h : VOk B w gv s) {i : Nat} {x y : Ac} (hx : s.accts[i]? = some x) (hy : y.Ok) {f : Nat} {news : List Value} (hf : f + news.length ≤ 29) (hcells : y.cells = x.cells.take f ++ (news ++ x.cells.drop (f + news.length)))
    {gA cap : Nat} (hav : s.av = .slice (some ⟨gA, 0, none⟩) s.accts.length cap) : VOk B (w.setCells gA (i * 29 + f) news) gv { s with accts := s.accts.set i y } := by
  have hil := (List.getElem?_eq_some_iff.1 hx).1
  have hxm : x ∈ s.accts := List.mem_of_getElem? hx
  have hne : gA ≠ gv := by
    rintro rfl
    apply h.apA; rw [hav]; rfl
  have o1 : Only gA w (w.setCells gA (i * 29 + f) news) := Only.setCells _ _ (Only.refl _ _)
  have hc : ∀ o, (w.setCells gA (i * 29 + f) news).cell? ⟨gv, o, none⟩ = w.cell? ⟨gv, o, none⟩ := fun o => o1.cell (p := ⟨gv, o, none⟩) (Ne.symm hne)
  have lenx := Ac.length (h.len x hxm)
  have leny := Ac.length hy.len
  have okAll : ∀ z ∈ s.accts.set i y, z.Ok := fun z hz => by
    rcases List.mem_or_eq_of_mem_set hz with h1 | rfl
    · exact h.ok z h1
    · exact hy
  have hl : acells (s.accts.set i y) = RowV.laid (acells s.accts) (i * 29 + f) news := by
    have hpre : (acells (s.accts.take i)).length = i * 29 := by
      rw [acells_length (fun z hz => h.len z (List.mem_of_mem_take hz)), List.length_take, Nat.min_eq_left (by omega)]
    rw [acells_set hx, acells_split hx, ← hpre, laid_mid _ _ _ _ _ (by rw [lenx]; exact hf), hcells]
  refine ⟨?_, fun o => ?_, ?_, ?_, ?_, fun j hj => ?_, ?_, ?_, fun j hj => ?_, ?_, ?_, ?_, okAll, ?_, h.jfew, h.apA, h.apJ, h.apAJ⟩
  · rw [o1.size]; exact h.lt
  · rw [o1.frozen (p := ⟨gv, o, none⟩) (Ne.symm hne)]; exact h.free o
  · rw [hc]; exact h.cA
  · rcases h.vA with ⟨_, h1, _⟩ | ⟨g, cap', h1, hB, r, h2, h3, h4⟩
    · omega
    · have e : gA = g ∧ cap = cap' := by
        rw [hav] at h1
        simpa using h1
      obtain ⟨rfl, rfl⟩ := e
      refine .inr ⟨gA, cap, by rw [h1]; simp, hB, ?_, ?_, by simpa using h3, h4⟩
      · show RowV _ gA (cap * 29) (acells (s.accts.set i y))
        rw [hl]
        refine r.lay _ _ ?_ ?_
        · rw [h2]; omega
        · have : (i + 1) * 29 ≤ cap * 29 := Nat.mul_le_mul_right _ (by omega)
          omega
      · show (acells (s.accts.set i y)).length = _
        rw [acells_length (fun z hz => (okAll z hz).len)]
  · rw [hc]; exact h.cS
  · rw [hc]; exact h.cT j hj
  · rw [hc]; exact h.cJ
  · refine h.vJ.turn (Turn.of_only o1) (fun g hg hm => ?_)
    obtain rfl : g = gA := by simpa using hm
    exact h.apAJ g (by rw [hav]; rfl) hg
  · rw [hc]; exact h.cM j hj
  · rw [hc]; exact h.cN
  · rw [hc]; exact h.cR
  · rw [hc]; exact h.cL
  · show (s.accts.set i y).length ≤ 8; simpa using h.few
end Go.Proofs.YgcsafGreat
