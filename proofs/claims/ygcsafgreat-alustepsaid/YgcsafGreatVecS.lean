/-
  ROWS OF STRUCTS OF THE CALL's OWN: append; any 'wpList' law inside a region that draws.
-/
import Derived.Test.YgcsafGreatDrawn
namespace Go.Proofs.YgcsafGreat
open Go.RowKit
set_option linter.unusedVariables false
set_option linter.unusedSimpArgs false

/-! ### wpList laws inside drawn regions -/
/-- What follows an operation of a drawn region. -/
def backTo (P : Program) (md : Region.Mode) (ops : Array Oper) (Q : Exit → Act → World → Prop) (S : World → Prop) (fuel : Nat) (listed : Array Bool) : Exit → Act → World → Prop
  | .normal, a, w => S w ∧ wpAnyH P md ops Q S fuel listed a w
  | e, a, w => Q e a w
theorem backTo.nil {P : Program} {md : Region.Mode} {ops ops' : Array Oper} {Q : Exit → Act → World → Prop} {S : World → Prop} {fuel : Nat} {listed : Array Bool} {a : Act} {w : World} (hS : S w) (h : wpAnyH P md ops Q S fuel listed a w) :
    wpList P ops' (backTo P md ops Q S fuel listed) [] a w := ⟨hS, h⟩
theorem wp_swapQ {P : Program} {o : Oper} {a : Act} {w : World} {K : Act → World → Prop} {Q Q' : Exit → Act → World → Prop} (hq : ∀ c a w, Q' (.panic c) a w → Q (.panic c) a w) (ho : LetsOut Q' → LetsOut Q) (h : o.wp P a w K Q') : o.wp P a w K Q := by
  unfold Oper.wp at *
  generalize (execOp a.eval o).run P w = r at *
  cases r with
  | ok n w' =>
    cases n <;> simp only [Oper.upon] at h ⊢
    case value u => exact h
    case skip => exact h
    case defer d => exact h
    case enter f args =>
      refine Calls.mono h fun e w'' he => ?_
      cases e with
      | returned u => exact he
      | panicked c => exact hq _ _ _ he
      | outgrown => exact ho he
    case row row args => exact h
  | halt x w' =>
    cases x <;> simp only [Oper.upon] at h ⊢
    case panic u => exact hq _ _ _ h
/-- One operation alone may come up: by a law on 'wpList'. -/
theorem wpAnyH_list {P : Program} {ops : Array Oper} {Q : Exit → Act → World → Prop} {md : Region.Mode} {S : World → Prop} (i : Nat) {o : Oper} {r : List Oper} {fuel : Nat} {listed : Array Bool} {a : Act} {w : World} (hr : Region.ready md ops listed = [i]) (ho : ops.toList.drop i = o :: r)
    (hw : o.guard = none) (h : wpList P ops (backTo P md ops Q S fuel (listed.setIfInBounds i true)) [o] a w) : wpAnyH P md ops Q S (fuel + 1) listed a w := by
  refine wpAnyH_all hr (by simp) fun j hj => ?_
  obtain rfl : j = i := by simpa using hj
  unfold Go.wpOp
  simp only [op_at ho, wanted_plain hw, if_true]
  unfold wpList at h
  simp only [wanted_plain hw, if_true] at h
  rcases h with h | ⟨h1, a', w', h2⟩
  · exact .inl (wp_swapQ (fun c a w h => h) (fun ⟨a', w', h⟩ => ⟨a', w', h⟩) h)
  · exact .inr ⟨h1, a', w', h2⟩

/-! ### Rows of structs -/
theorem RowV.of_ownsRowS {w : World} {base : Nat} {e : TypeId} {v : Value} {n size : Nat} {xs : List Value} (h : w.ownsRow base e size v n xs) (hn : 0 < n) :
    ∃ g cap, v = .slice (some ⟨g, 0, none⟩) n cap ∧ base ≤ g ∧ RowV w g (cap * size) xs ∧ cap ≤ maxLen ∧ n ≤ cap ∧ xs.length = n * size := by
  obtain ⟨hl, h | ⟨g, cap, cur, rfl, hb, hg, hn', hm, hs, ht⟩⟩ := h
  · omega
  · have hle : n * size ≤ cap * size := Nat.mul_le_mul_right _ hn'
    refine ⟨g, cap, rfl, hb, ⟨(Array.getElem?_eq_some_iff.1 hg).1, by omega, fun j v hv => ?_, fun j hj => ?_, fun o => ?_⟩, hm, hn', hl⟩
    · rw [cell_of_row w g j cur e (0, 0) hg]
      rw [← ht, List.getElem?_take] at hv
      split at hv
      · simpa using hv
      · cases hv
    · rw [cell_of_row w g j cur e (0, 0) hg]
      rw [Array.getElem?_eq_getElem (by omega)]; rfl
    · unfold World.frozen?
      rw [hg]
      simp
/-- A slice of k structs of the call's own (their cells vs), or nil. -/
def VecS (size B : Nat) (w : World) (v : Value) (k : Nat) (vs : List Value) : Prop :=
  (v = .slice none 0 0 ∧ k = 0 ∧ vs = []) ∨ ∃ g cap, v = .slice (some ⟨g, 0, none⟩) k cap ∧ B ≤ g ∧ RowV w g (cap * size) vs ∧ vs.length = k * size ∧ k ≤ cap ∧ cap ≤ maxLen

theorem wpList_append_vecS {w : World} {ops : Array Oper} {rest : List Oper} {o : Oper} {a : Act} {Q : Exit → Act → World → Prop} (hgd : o.guard = none) (s x : Operand) (t : TypeId)
    (ho : o.op = .call { callee := .builtin .append, args := #[s, x], argTypes := #[t, t] })
    (B : Nat) (e : TypeId) (i : TypeInfo) (z : Value) (size bytes : Nat) (ht : Safg.prog.underlying t = some (.slice e)) (hi : Safg.prog.info? e = some i) (hz : i.zero = some z)
    (hsize : i.size = size) (hby : i.bytes = bytes) (hzs : z.cells.size = size) (hpos : 0 < size)
    (v : Value) (k : Nat) (vs : List Value) (hs : a.eval s = v) (hv : VecS size B w v k vs)
    (ad : Addr) (m c : Nat) (news : List Value) (hx : a.eval x = .slice (some ad) m c) (hl : news.length = m * size) (hnews : ∀ j u, news[j]? = some u → w.cell? (ad.add j) = some u) (h1 : ∀ u ∈ news, u.oneCell' = true)
    (hm : 0 < m) (h63 : k + m ≤ maxLen) (hbytes : (k + m) * bytes ≤ 140737488355328) (hB : B ≤ w.heap.size)
    (h : ∀ g cap w', B ≤ g → RowV w' g (cap * size) (vs ++ news) → k + m ≤ cap → cap ≤ maxLen → Turn v.ownBlock.toList w w' → (v.ownBlock = some g ∨ w.heap.size ≤ g) → wpList Safg.prog ops Q rest (a.put o.dst (.slice (some ⟨g, 0, none⟩) (k + m) cap)) w') :
    wpList Safg.prog ops Q (o :: rest) a w := by
  rcases hv with ⟨rfl, rfl, rfl⟩ | ⟨g, cap, rfl, hg, r, hvl, hkc, hcm⟩
  · refine wpList_append_own w hgd s x t ho w.heap.size e i z size bytes ht hi hz hsize hby hzs hpos (.slice none 0 0) 0 [] hs (World.ownsRow_nil _ _ _ _) ad m c news hx hl hnews h1 (by simpa using h63) (by simpa using hbytes) (Nat.le_refl _) ?_
    intro v' w' own gr _
    obtain ⟨g, cap, rfl, hb, r, hcm, hnc, hl'⟩ := RowV.of_ownsRowS own (by omega)
    exact h g cap w' (by omega) r hnc hcm (Turn.of_grownBy gr _ (fun k hk => by cases hk)) (.inr hb)
  · refine wpList_append_arg w hgd s x t ho e i z size bytes ht hi hz hsize hby hzs hpos g 0 k cap vs hs hvl (fun j u hu => by rw [Nat.zero_add]; exact r.cell j u hu) ad m c news hx hl hnews h1
      (fun hr j hj => by
        rw [Nat.zero_add]
        have h2 : (k + m) * size ≤ cap * size := Nat.mul_le_mul_right _ hr
        rw [Nat.add_mul] at h2
        exact ⟨r.room _ (by omega), r.free _⟩) h63 hbytes ?_ ?_
    · intro hr
      have h2 : (k + m) * size ≤ cap * size := Nat.mul_le_mul_right _ hr
      rw [Nat.add_mul] at h2
      have := h g cap (w.setCells g (0 + k * size) news) hg (by rw [Nat.zero_add, ← hvl]; exact r.lay_end news (by omega)) hr hcm (Turn.of_only (Only.setCells news _ (Only.refl g w))) (.inl rfl)
      exact this
    · intro hr v' w' own gr
      obtain ⟨g', cap', rfl, hb, r', hcm', hnc', hl'⟩ := RowV.of_ownsRowS own (by omega)
      exact h g' cap' w' (by omega) r' hnc' hcm' (Turn.of_grownBy gr _ (fun k hk => by cases hk)) (.inr hb)
end Go.Proofs.YgcsafGreat
