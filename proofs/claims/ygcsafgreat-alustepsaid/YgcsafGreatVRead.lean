/-
  'vault': Nonce (160), Balance (60), Code (65), IsWarmAcct (174), room (171), Sizes (53), Refund (26).
-/
import Derived.Test.YgcsafGreatCopied
namespace Go.Proofs.YgcsafGreat
open Go.RowKit
set_option linter.unusedVariables false
set_option linter.unusedSimpArgs false

theorem VOk.spot {B : Nat} {w : World} {gv : Nat} {s : Vst} (h : VOk B w gv s) {i : Nat} {x : Ac} (hx : s.accts[i]? = some x) :
    ∃ gA cap, s.av = .slice (some ⟨gA, 0, none⟩) s.accts.length cap ∧ B ≤ gA ∧ s.accts.length ≤ cap ∧ i < s.accts.length ∧ (∀ j v, x.cells[j]? = some v → w.cell? ⟨gA, i * 29 + j, none⟩ = some v) ∧ (∀ o, w.frozen? ⟨gA, o, none⟩ = false) ∧ gA < w.heap.size ∧ x.Ok := by
  have hil := (List.getElem?_eq_some_iff.1 hx).1
  have hmem : x ∈ s.accts := List.mem_of_getElem? hx
  rcases h.vA with ⟨_, h1, _⟩ | ⟨g, cap, h1, h2, r, _, h4, _⟩
  · omega
  · refine ⟨g, cap, h1, h2, h4, hil, fun j v hv => r.cell _ v ?_, r.free, r.lt, h.ok x hmem⟩
    have hj : j < 29 := by
      have := (List.getElem?_eq_some_iff.1 hv).1
      rwa [Ac.length (h.len x hmem)] at this
    rw [acells_get h.len hx hj]; exact hv
namespace Ac
theorem rest_get {x : Ac} (h : x.addr.length = 20) (j : Nat) : x.cells[20 + j]? = x.rest[j]? := by
  unfold cells
  rw [List.getElem?_append_right (by rw [cellsL_length, h]; omega), cellsL_length, h, Nat.add_sub_cancel_left]
theorem at_nonce {x : Ac} (h : x.addr.length = 20) : x.cells[20]? = some (.int .u64 (x.nonce : Int)) := rest_get h 0
theorem at_bal {x : Ac} (h : x.addr.length = 20) {j : Nat} (hj : j < 4) : x.cells[21 + j]? = x.bal.cells[j]? := by
  have := rest_get h (1 + j)
  rw [show 20 + (1 + j) = 21 + j by omega] at this
  rw [this]
  unfold rest
  rw [Nat.add_comm, List.getElem?_cons_succ, List.getElem?_append_left (by simpa [Wd4.cells] using hj)]
theorem at_code {x : Ac} (h : x.addr.length = 20) : x.cells[25]? = some x.code := rest_get h 5
theorem at_warm {x : Ac} (h : x.addr.length = 20) : x.cells[26]? = some (.bool x.warm) := rest_get h 6
theorem at_made {x : Ac} (h : x.addr.length = 20) : x.cells[27]? = some (.bool x.made) := rest_get h 7
theorem at_gone {x : Ac} (h : x.addr.length = 20) : x.cells[28]? = some (.bool x.gone) := rest_get h 8
end Ac

set_option maxRecDepth 100000 in
set_option maxHeartbeats 1000000 in
theorem nonce_some (B : Nat) (w : World) (gv : Nat) (s : Vst) (hv : VOk B w gv s) (A : List Nat) (hA : A.length = 20) (dA : D.Dig A) (i : Nat) (x : Ac) (hx : s.accts[i]? = some x) (hxa : x.addr = A) (ht : s.tab (homeN A) = (i : Int)) :
    Calls Safg.prog 160 #[.pointer (some ⟨gv, 0, none⟩), arrV A] w fun e w' => e = .returned (.int .u64 (x.nonce : Int)) ∧ Below w.heap.size w w' := by
  have hfew := hv.few
  have HF := fun (w : World) (hv : VOk B w gv s) => findAcct_some B w gv s hv A hA dA i x hx hxa ht
  go_enter Safg.func160, Safg.ntmps160
  go_upto_region 2 with (first | (refine wpList_box_arr rfl 33 (.tmp 1) rfl A rfl ?_; intro w1 g3 hg3 o3 b3) | (refine wpList_load_arr rfl 33 (.tmp 3) rfl g3 rfl A o3 20 5 Safg.under33 (by rw [hA]; exact Safg.size33) ?_) | (go_at_call 173; refine (HF _ (hv.below b3)).mono ?_; rintro e w4 ⟨rfl, b4⟩))
  have bb : Below w.heap.size w w4 := b3.trans (b4.mono b3.size)
  have hv4 := hv.below bb
  obtain ⟨gA, cap, hav, _, hcap, hil, hcell, _, _, xok⟩ := hv4.spot hx
  have cA := hv4.cA
  rw [hav] at cA
  have c1 := hcell _ _ (Ac.at_nonce xok.len)
  generalize s.accts.length = n at *
  have t1 : decide ((0 : Int) ≤ (i : Int)) = true := decide_eq_true (by omega)
  clear hcell hv4 HF hx
  go_wp2
  go_ret
  exact ⟨rfl, bb⟩

set_option maxRecDepth 100000 in
set_option maxHeartbeats 1000000 in
theorem balance_some (B : Nat) (w : World) (gv : Nat) (s : Vst) (hv : VOk B w gv s) (A : List Nat) (hA : A.length = 20) (dA : D.Dig A) (i : Nat) (x : Ac) (hx : s.accts[i]? = some x) (hxa : x.addr = A) (ht : s.tab (homeN A) = (i : Int)) :
    Calls Safg.prog 60 #[.pointer (some ⟨gv, 0, none⟩), arrV A] w fun e w' => e = .returned x.bal.v ∧ Below w.heap.size w w' := by
  have hfew := hv.few
  have HF := fun (w : World) (hv : VOk B w gv s) => findAcct_some B w gv s hv A hA dA i x hx hxa ht
  go_enter Safg.func60, Safg.ntmps60
  go_upto_region 2 with (first | (refine wpList_box_arr rfl 33 (.tmp 1) rfl A rfl ?_; intro w1 g3 hg3 o3 b3) | (refine wpList_alloc_agg rfl 65 rfl _ Safg.zero65 ?_; intro w2 g4 hg4 k4 c4; have o3 := o3.below c4 o3.lt) | (refine wpList_load_arr rfl 33 (.tmp 3) rfl g3 rfl A o3 20 5 Safg.under33 (by rw [hA]; exact Safg.size33) ?_) | (go_at_call 173; refine (HF _ (hv.below (b3.trans (c4.mono b3.size)))).mono ?_; rintro e w4 ⟨rfl, b4⟩))
  have s1 := b3.size; have s2 := c4.size
  have bb : Below w.heap.size w w4 := b3.trans ((c4.mono b3.size).trans (b4.mono (by omega)))
  have hv4 := hv.below bb
  obtain ⟨gA, cap, hav, _, hcap, hil, hcell, _, _, xok⟩ := hv4.spot hx
  have cA := hv4.cA
  rw [hav] at cA
  have rng : w4.rangeAt gA (i * 29 + 21) x.bal.cells := fun j v hvj => by
    have hj : j < 4 := (List.getElem?_eq_some_iff.1 hvj).1
    have := hcell (21 + j) v (by rw [Ac.at_bal xok.len hj]; exact hvj)
    rw [← Nat.add_assoc] at this
    exact this
  have r4 : Blk w4 g4 _ := k4.below b4 k4.lt
  generalize s.accts.length = n at *
  have t1 : decide ((0 : Int) ≤ (i : Int)) = true := decide_eq_true (by omega)
  clear hcell hv4 HF hx
  go_wp2_with (first | (refine wpList_load_mid rfl 65 (.tmp 21) rfl gA (i * 29 + 21) rfl _ _ rng Safg.under65 rfl Safg.size65 ?_) | (refine wpList_store_agg rfl 65 _ _ rfl g4 rfl _ x.bal.cells rfl r4 rfl Safg.size65 (Wd4.one _) ?_; intro w7 k7 n7))
  refine bodyPost_ret (results_cell1 Safg.results60 _ w7 g4 _ _ rfl k7 Safg.under65 rfl Safg.size65) rfl ⟨rfl, bb.trans (n7.below (by omega))⟩

set_option maxRecDepth 100000 in
set_option maxHeartbeats 1000000 in
theorem isWarm_some (B : Nat) (w : World) (gv : Nat) (s : Vst) (hv : VOk B w gv s) (A : List Nat) (hA : A.length = 20) (dA : D.Dig A) (i : Nat) (x : Ac) (hx : s.accts[i]? = some x) (hxa : x.addr = A) (ht : s.tab (homeN A) = (i : Int)) :
    Calls Safg.prog 174 #[.pointer (some ⟨gv, 0, none⟩), arrV A] w fun e w' => e = .returned (.bool x.warm) ∧ Below w.heap.size w w' := by
  have hfew := hv.few
  have HF := fun (w : World) (hv : VOk B w gv s) => findAcct_some B w gv s hv A hA dA i x hx hxa ht
  obtain ⟨t, HT⟩ : ∃ t, Hid (x.warm = t) := ⟨_, rfl⟩
  rw [HT.out]
  go_enter Safg.func174, Safg.ntmps174
  go_upto_region 2 with (first | (refine wpList_box_arr rfl 33 (.tmp 1) rfl A rfl ?_; intro w1 g3 hg3 o3 b3) | (refine wpList_load_arr rfl 33 (.tmp 3) rfl g3 rfl A o3 20 5 Safg.under33 (by rw [hA]; exact Safg.size33) ?_) | (go_at_call 173; refine (HF _ (hv.below b3)).mono ?_; rintro e w4 ⟨rfl, b4⟩))
  have bb : Below w.heap.size w w4 := b3.trans (b4.mono b3.size)
  have hv4 := hv.below bb
  obtain ⟨gA, cap, hav, _, hcap, hil, hcell, _, _, xok⟩ := hv4.spot hx
  have cA := hv4.cA
  rw [hav] at cA
  have c1 := hcell _ _ (Ac.at_warm xok.len)
  generalize s.accts.length = n at *
  rw [HT.out] at c1
  have t1 : decide ((0 : Int) ≤ (i : Int)) = true := decide_eq_true (by omega)
  clear hcell hv4 HF hx
  go_wp2
  go_ret
  exact ⟨rfl, bb⟩

set_option maxRecDepth 100000 in
set_option maxHeartbeats 1000000 in
theorem isWarm_none (B : Nat) (w : World) (gv : Nat) (s : Vst) (hv : VOk B w gv s) (A : List Nat) (hA : A.length = 20) (dA : D.Dig A) (ht : s.tab (homeN A) = -1) :
    Calls Safg.prog 174 #[.pointer (some ⟨gv, 0, none⟩), arrV A] w fun e w' => e = .returned (.bool false) ∧ Below w.heap.size w w' := by
  have HF := fun (w : World) (hv : VOk B w gv s) => findAcct_none B w gv s hv A hA dA ht
  generalize homeN A = p at *
  go_enter Safg.func174, Safg.ntmps174
  go_wp2_with (first | (refine wpList_box_arr rfl 33 (.tmp 1) rfl A rfl ?_; intro w1 g3 hg3 o3 b3) | (refine wpList_load_arr rfl 33 (.tmp 3) rfl g3 rfl A o3 20 5 Safg.under33 (by rw [hA]; exact Safg.size33) ?_) | (go_at_call 173; refine (HF _ (hv.below b3)).mono ?_; rintro e w4 ⟨rfl, b4⟩))
  go_ret
  exact ⟨rfl, b3.trans (b4.mono b3.size)⟩

set_option maxRecDepth 100000 in
set_option maxHeartbeats 1000000 in
theorem room_any (B : Nat) (w : World) (gv : Nat) (s : Vst) (hv : VOk B w gv s) :
    Calls Safg.prog 171 #[.pointer (some ⟨gv, 0, none⟩)] w fun e w' => e = .returned (.bool true) ∧ w' = w := by
  have hj := hv.jfew
  have cJ := hv.cJ
  have : ∃ a c, s.jv = .slice a s.jn c := by
    rcases hv.vJ with ⟨h1, h2, _⟩ | ⟨g, cap, h1, _⟩
    · exact ⟨none, 0, by rw [h1, h2]⟩
    · exact ⟨_, _, h1⟩
  obtain ⟨a, c, e⟩ := this
  rw [e] at cJ
  generalize s.jn = n at *
  have t1 : decide ((n : Int) < 65536) = true := decide_eq_true (by omega)
  clear hv
  go_enter Safg.func171, Safg.ntmps171
  go_wp2
  go_ret
  exact ⟨rfl, rfl⟩

set_option maxRecDepth 100000 in
set_option maxHeartbeats 1000000 in
/-- The code of an account that has none. -/
theorem code_nil (B : Nat) (w : World) (gv : Nat) (s : Vst) (hv : VOk B w gv s) (A : List Nat) (hA : A.length = 20) (dA : D.Dig A) (i : Nat) (x : Ac) (hx : s.accts[i]? = some x) (hxa : x.addr = A) (ht : s.tab (homeN A) = (i : Int)) (hc : x.code = .slice none 0 0) :
    Calls Safg.prog 65 #[.pointer (some ⟨gv, 0, none⟩), arrV A] w fun e w' => e = .returned (.slice none 0 0) ∧ Below w.heap.size w w' := by
  have hfew := hv.few
  have HF := fun (w : World) (hv : VOk B w gv s) => findAcct_some B w gv s hv A hA dA i x hx hxa ht
  go_enter Safg.func65, Safg.ntmps65
  go_upto_region 2 with (first | (refine wpList_box_arr rfl 33 (.tmp 1) rfl A rfl ?_; intro w1 g3 hg3 o3 b3) | (refine wpList_load_arr rfl 33 (.tmp 3) rfl g3 rfl A o3 20 5 Safg.under33 (by rw [hA]; exact Safg.size33) ?_) | (go_at_call 173; refine (HF _ (hv.below b3)).mono ?_; rintro e w4 ⟨rfl, b4⟩))
  have bb : Below w.heap.size w w4 := b3.trans (b4.mono b3.size)
  have hv4 := hv.below bb
  obtain ⟨gA, cap, hav, _, hcap, hil, hcell, _, _, xok⟩ := hv4.spot hx
  have cA := hv4.cA
  rw [hav] at cA
  have c1 := hcell _ _ (Ac.at_code xok.len)
  rw [hc] at c1
  generalize s.accts.length = n at *
  have t1 : decide ((0 : Int) ≤ (i : Int)) = true := decide_eq_true (by omega)
  clear hcell hv4 HF hx
  go_wp2_with (go_at_call 157; refine (vcopied_nil _).mono ?_; rintro e w5 ⟨rfl, hw⟩; subst hw)
  go_ret
  exact ⟨rfl, bb⟩

set_option maxRecDepth 100000 in
set_option maxHeartbeats 1000000 in
/-- The code of an account: a copy. -/
theorem code_some (B : Nat) (w : World) (gv : Nat) (s : Vst) (hv : VOk B w gv s) (A : List Nat) (hA : A.length = 20) (dA : D.Dig A) (i : Nat) (x : Ac) (hx : s.accts[i]? = some x) (hxa : x.addr = A) (ht : s.tab (homeN A) = (i : Int)) (gc n c : Nat) (L : List Nat) (hc : x.code = .slice (some ⟨gc, 0, none⟩) n c) (own : Own w gc L) (hL : L.length = n) (dL : D.Dig L) (hn : 0 < n) (hm : n ≤ 65536) :
    Calls Safg.prog 65 #[.pointer (some ⟨gv, 0, none⟩), arrV A] w fun e w' => ∃ g, e = .returned (.slice (some ⟨g, 0, none⟩) n n) ∧ w.heap.size ≤ g ∧ Own w' g L ∧ Below w.heap.size w w' := by
  have hfew := hv.few
  have HF := fun (w : World) (hv : VOk B w gv s) => findAcct_some B w gv s hv A hA dA i x hx hxa ht
  go_enter Safg.func65, Safg.ntmps65
  go_upto_region 2 with (first | (refine wpList_box_arr rfl 33 (.tmp 1) rfl A rfl ?_; intro w1 g3 hg3 o3 b3) | (refine wpList_load_arr rfl 33 (.tmp 3) rfl g3 rfl A o3 20 5 Safg.under33 (by rw [hA]; exact Safg.size33) ?_) | (go_at_call 173; refine (HF _ (hv.below b3)).mono ?_; rintro e w4 ⟨rfl, b4⟩))
  have bb : Below w.heap.size w w4 := b3.trans (b4.mono b3.size)
  have hv4 := hv.below bb
  have own4 := own.below bb own.lt
  have rd : Rd w4 (some ⟨gc, 0, none⟩) n L := by have := own4.rd dL; rwa [hL] at this
  obtain ⟨gA, cap, hav, _, hcap, hil, hcell, _, _, xok⟩ := hv4.spot hx
  have cA := hv4.cA
  rw [hav] at cA
  have c1 := hcell _ _ (Ac.at_code xok.len)
  rw [hc] at c1
  generalize s.accts.length = k at *
  have t1 : decide ((0 : Int) ≤ (i : Int)) = true := decide_eq_true (by omega)
  clear hcell hv4 HF hx
  go_wp2_with (go_at_call 157; refine (vcopied_any _ _ n c L rd hn hm).mono ?_; rintro e w5 ⟨g, rfl, hg, o5, b5⟩)
  go_ret
  exact ⟨g, rfl, Nat.le_trans bb.size hg, o5, bb.trans (b5.mono bb.size)⟩
end Go.Proofs.YgcsafGreat
