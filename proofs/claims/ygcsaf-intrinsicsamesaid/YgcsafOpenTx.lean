/-
  FROM THE ARGUMENT's READING TO 'Tx0': a transaction that came in by value.
-/
import Derived.Test.YgcsafOpen
import Derived.Test.YgcsafIntr
import Derived.Deep.Slices
namespace Go.Proofs.Ygcsaf
open Go.ChangeShapes Go.WideShapes Go.ChangeAt Go.RowKit Go.Deep
set_option linter.unusedVariables false
set_option linter.unusedSimpArgs false

theorem Safg.cells33 : Safg.prog.cellsOf 33 = 174 := by kernel_rfl
theorem Safg.cells97 : Safg.prog.cellsOf 97 = 21 := by kernel_rfl
theorem Safg.cells27 : Safg.prog.cellsOf 27 = 20 := by kernel_rfl
theorem Safg.cells29 : Safg.prog.cellsOf 29 = 32 := by kernel_rfl
theorem Safg.cells4 : Safg.prog.cellsOf 4 = 1 := by kernel_rfl
theorem Safg.cells30 : Safg.prog.cellsOf 30 = 1 := by kernel_rfl
theorem Safg.cells31 : Safg.prog.cellsOf 31 = 1 := by kernel_rfl
theorem Safg.cells95 : Safg.prog.cellsOf 95 = 1 := by kernel_rfl
theorem Safg.bytes29 : Safg.prog.bytesOf 29 = 32 := by kernel_rfl

theorem drop_take_one {cs : List Value} {k : Nat} {v : Value} (h : (cs.drop k).take 1 = [v]) : cs[k]? = some v := by
  cases hd : cs.drop k with
  | nil => rw [hd] at h; simp at h
  | cons x l =>
    rw [hd] at h
    simp at h
    have : (cs.drop k)[0]? = some x := by rw [hd]; rfl
    rw [List.getElem?_drop] at this
    simpa [h] using this

theorem weightsAll_mem {H : Type} {P : Program} {e : TypeId} {d : DataW H} {n : Nat} (hn : n ∈ d.weights P e) : ∀ {l : List (DataW H)}, d ∈ l → n ∈ DataW.weightsAll P e l
  | x :: l, h => by
    simp only [DataW.weightsAll, List.mem_append]
    rcases List.mem_cons.1 h with rfl | h
    · exact .inl hn
    · exact .inr (weightsAll_mem hn h)

section
variable {H : Type} {enc : TypeId × Value → H} {W : World}

/-- One entry of the access list. -/
theorem open_entry {n : Nat} {es : List Value} {d : DataW H} {p : List MemPlace} (h : DataW.trod enc Safg.prog W 0 (fun _ => true) true n 97 es = some (d, p)) :
    es.length = 21 ∧ (∀ v ∈ es, v.oneCell' = true) ∧ ∃ ka kn kc, es[20]? = some (.slice ka kn kc) ∧ (kn = 0 ∨ ∃ m, kn ≤ m ∧ m * 32 ∈ d.weights Safg.prog 97) := by
  obtain ⟨xs, m, rfl, hx, hlen, hxl, hf⟩ := DataW.trod_struct Safg.underlying97 h
  rw [Safg.cells97] at hlen
  have f0 : DataW.trod enc Safg.prog W 0 (fun _ => true) true m 27 ((es.drop 0).take (Safg.prog.cellsOf 27)) = xs[0]? := hf 0 _ rfl
  have f1 : DataW.trod enc Safg.prog W 0 (fun _ => true) true m 95 ((es.drop 20).take (Safg.prog.cellsOf 95)) = xs[1]? := hf 1 _ rfl
  rw [Safg.cells27] at f0
  rw [Safg.cells95] at f1
  have hxl' : xs.length = 2 := hxl
  obtain ⟨x0, x1, rfl⟩ : ∃ x0 x1, xs = [x0, x1] := by
    match xs, hxl' with
    | [x0, x1], _ => exact ⟨x0, x1, rfl⟩
  simp only [List.getElem?_cons_zero, List.getElem?_cons_succ] at f0 f1
  have hint : ∀ j, j < 20 → ∃ k, es[j]? = some (.int .u8 k) := by
    intro j hj
    obtain ⟨ys, q, _, _, _, hyl, hy⟩ := DataW.trod_array Safg.underlying27 f0
    have hyj := hy j hj
    rw [Safg.cells5, Nat.mul_one, List.getElem?_eq_getElem (show j < ys.length by omega)] at hyj
    obtain ⟨k, hk, _⟩ := DataW.trod_int Safg.underlying5 hyj
    have := drop_take_one hk
    rw [List.getElem?_take, if_pos hj, List.drop_zero] at this
    exact ⟨k, this⟩
  rcases open_slice Safg.underlying95 f1 with ⟨h0, _⟩ | ⟨a, len, cap, mm, nn, Dd, Pl, h0, _, hl, hm, hmm, hxx, _⟩
  · have e20 := drop_take_one h0
    refine ⟨hlen, ?_, none, 0, 0, e20, .inl rfl⟩
    intro v hv
    obtain ⟨j, hj, rfl⟩ := List.mem_iff_getElem.1 hv
    by_cases h20 : j < 20
    · obtain ⟨k, hk⟩ := hint j h20
      rw [List.getElem?_eq_getElem hj] at hk
      rw [Option.some.inj hk]; rfl
    · have : j = 20 := by omega
      subst this
      rw [List.getElem?_eq_getElem hj] at e20
      rw [Option.some.inj e20]; rfl
  · have e20 := drop_take_one h0
    refine ⟨hlen, ?_, some a, len, cap, e20, .inr ⟨mm, by rw [hmm]; simpa using hl, ?_⟩⟩
    · intro v hv
      obtain ⟨j, hj, rfl⟩ := List.mem_iff_getElem.1 hv
      by_cases h20 : j < 20
      · obtain ⟨k, hk⟩ := hint j h20
        rw [List.getElem?_eq_getElem hj] at hk
        rw [Option.some.inj hk]; rfl
      · have : j = 20 := by omega
        subst this
        rw [List.getElem?_eq_getElem hj] at e20
        rw [Option.some.inj e20]; rfl
    · simp only [Prod.mk.injEq] at hx
      rw [hx.1]
      simp only [DataW.weights, Safg.underlying97, List.map_cons, List.map_nil]
      refine DataW.weights_mem_each (j := 1) (t := 95) (d := x1.1) rfl rfl _ ?_
      rw [hxx]
      simp only [DataW.weights, Safg.underlying95, List.length_map, List.length_range, Safg.bytes29]
      have : len ≤ mm := by rw [hmm]; simpa using hl
      rw [show len + (mm - len) = mm by omega]
      exact List.mem_cons_self

set_option maxRecDepth 100000 in
theorem open_tx {C : Array Value} {d : DataW H} {p : List MemPlace} (h : DataW.Trod enc Safg.prog W 0 (fun _ => true) true 33 (.agg C) d p) (hsz : ∀ n ∈ d.weights Safg.prog 33, n ≤ reachBytes) :
    ∃ cr da dc Dt aa ac K, Tx0 W C.toList cr da dc Dt aa ac K := by
  obtain ⟨fuel, hf0⟩ := h
  have hf1 : DataW.trod enc Safg.prog W 0 (fun _ => true) true fuel 33 C.toList = some (d, p) := hf0
  obtain ⟨xs, m, rfl, hx, hlen, hxl, hf⟩ := DataW.trod_struct Safg.underlying33 hf1
  rw [Safg.cells33] at hlen
  have f2 : DataW.trod enc Safg.prog W 0 (fun _ => true) true m 4 ((C.toList.drop 40).take (Safg.prog.cellsOf 4)) = xs[2]? := hf 2 _ rfl
  have f7 : DataW.trod enc Safg.prog W 0 (fun _ => true) true m 30 ((C.toList.drop 107).take (Safg.prog.cellsOf 30)) = xs[7]? := hf 7 _ rfl
  have f11 : DataW.trod enc Safg.prog W 0 (fun _ => true) true m 31 ((C.toList.drop 173).take (Safg.prog.cellsOf 31)) = xs[11]? := hf 11 _ rfl
  rw [Safg.cells4] at f2
  rw [Safg.cells30] at f7
  rw [Safg.cells31] at f11
  have hxl' : xs.length = 12 := hxl
  simp only [Prod.mk.injEq] at hx
  have hw : ∀ (j : Nat) (t : TypeId) (y : DataW H × List MemPlace), ([27, 27, 4, 22, 22, 29, 29, 30, 4, 29, 29, 31] : List TypeId)[j]? = some t → xs[j]? = some y → ∀ n ∈ y.1.weights Safg.prog t, n ≤ reachBytes := by
    intro j t y ht hy n hn
    refine hsz n ?_
    rw [hx.1]
    simp only [DataW.weights, Safg.underlying33, List.map_cons, List.map_nil]
    exact DataW.weights_mem_each (j := j) (t := t) (d := y.1) ht (by rw [List.getElem?_map, hy]; rfl) n hn
  rw [List.getElem?_eq_getElem (show 2 < xs.length by omega)] at f2
  rw [List.getElem?_eq_getElem (show 7 < xs.length by omega)] at f7
  rw [List.getElem?_eq_getElem (show 11 < xs.length by omega)] at f11
  obtain ⟨cr, hcr, _⟩ := DataW.trod_bool Safg.underlying4 f2
  have e40 := drop_take_one hcr
  -- the data
  obtain ⟨da, dl, dc, Dt, e107, hrd, hdl, hdc⟩ : ∃ da dl dc Dt, C.toList[107]? = some (.slice da dl dc) ∧ Rd W da dl Dt ∧ dl ≤ dc ∧ dc ≤ 140737488351232 := by
    rcases open_ints Safg.underlying30 Safg.underlying5 Safg.cells5 f7 with ⟨hcs, _⟩ | ⟨x, l, c, zs, hcs, _, _, _, _, hxx, _, _⟩
    · exact ⟨none, 0, 0, [], drop_take_one hcs, Rd.nil _ _, Nat.le_refl _, by omega⟩
    · have htr : DataW.Trod enc Safg.prog W 0 (fun _ => true) true 30 (.slice (some x) l c) xs[7].1 xs[7].2 := ⟨m, by rw [hcs] at f7; exact f7⟩
      obtain ⟨Dt, h1, h2, h3⟩ := open_bytes htr (fun elems spare e => by
        refine hw 7 30 xs[7] rfl (List.getElem?_eq_getElem _) _ ?_
        rw [e]
        simp [DataW.weights, Safg.underlying30])
      exact ⟨some x, l, c, Dt, drop_take_one hcs, h1, h2, h3⟩
  have hD := hrd.length
  subst hD
  -- the access list
  rcases open_slice Safg.underlying31 f11 with ⟨h0, _⟩ | ⟨a, len, cap, mm, nn, Dd, Pl, h0, _, hl, hm, hmm, hxx, hel⟩
  · exact ⟨cr, da, dc, Dt, none, 0, [], ⟨hlen, e40, e107, drop_take_one h0, hrd, fun i hi => absurd hi (by simp), hdl, by omega, Nat.zero_le _, by omega, fun i => by simp⟩⟩
  · have hmm' : mm = cap := by rw [hmm]; rfl
    have hspot : 0 < len → a.spot = none := by
      intro hpos
      obtain ⟨es, hes, htr⟩ := hel 0 (by omega)
      rw [Safg.cells97] at hes
      obtain ⟨hl21, _⟩ := open_entry htr
      obtain ⟨_, _, hcell⟩ := World.cells?_some hes
      have h0 := hcell 0 (by omega)
      rw [List.getElem?_eq_getElem (show 0 < es.length by omega)] at h0
      cases hs : a.spot with
      | none => rfl
      | some q =>
        exfalso
        unfold World.cell? Addr.add at h0
        simp [hs] at h0
        revert h0
        split <;> simp
    have hent : ∀ i, i < len → ∃ kn : Nat, kn ≤ 4398046511104 ∧ ∃ b off es ka kc, some a = some ⟨b, off, none⟩ ∧ b < W.heap.size ∧ List.length es = 21 ∧ W.rangeAt b (off + i * 21) es ∧ (∀ v ∈ es, v.oneCell' = true) ∧ es[20]? = some (.slice ka kn kc) := by
      intro i hi
      obtain ⟨es, hes, htr⟩ := hel i (by omega)
      rw [Safg.cells97] at hes
      obtain ⟨hl21, hone, ka, kn, kc, h20, hk⟩ := open_entry htr
      obtain ⟨_, _, hcell⟩ := World.cells?_some hes
      have hkn : kn ≤ 4398046511104 := by
        rcases hk with h | ⟨q, hq, hmem⟩
        · omega
        · have := hw 11 31 xs[11] rfl (List.getElem?_eq_getElem _) (q * 32) (by
            rw [hxx]
            simp only [DataW.weights, Safg.underlying31]
            refine List.mem_cons_of_mem _ (List.mem_append.2 (.inl ?_))
            exact weightsAll_mem hmem (List.mem_map.2 ⟨i, List.mem_range.2 hi, rfl⟩))
          unfold reachBytes at this
          omega
      obtain ⟨b, off, sp⟩ := a
      have hsp : sp = none := hspot (by omega)
      subst hsp
      have hc : ∀ j, j < 21 → W.cell? ⟨b, off + i * 21 + j, none⟩ = es[j]? := by
        intro j hj
        have := hcell j hj
        rwa [Addr.add_mid, Addr.add_mid] at this
      refine ⟨kn, hkn, b, off, es, ka, kc, rfl, ?_, hl21, fun j v hv => ?_, hone, h20⟩
      · have := hc 20 (by omega)
        rw [h20] at this
        exact cell_lt this
      · have hj : j < es.length := (List.getElem?_eq_some_iff.1 hv).1
        rw [hc j (by omega)]; exact hv
    obtain ⟨kf, hkf⟩ := choose_lt (α := Nat) hent
    refine ⟨cr, da, dc, Dt, some a, cap, (List.range len).map kf, ⟨hlen, e40, e107, ?_, hrd, ?_, hdl, by omega, ?_, ?_, ?_⟩⟩
    · rw [drop_take_one h0]; simp
    · intro i hi
      have hi' : i < len := by simpa using hi
      obtain ⟨_, b, off, es, ka, kc, h1, h2, h3, h4, h5, h6⟩ := hkf i hi'
      refine ⟨b, off, es, ka, kc, h1, h2, h3, h4, h5, ?_⟩
      rw [h6]
      simp [hi']
    · simpa using hl
    · unfold maxLen at hm; omega
    · intro i
      by_cases hi : i < len
      · have := (hkf i hi).1
        simpa [hi] using this
      · simp [List.getElem?_eq_none (show (List.range len).length ≤ i by simp; omega)]
end

end Go.Proofs.Ygcsaf
