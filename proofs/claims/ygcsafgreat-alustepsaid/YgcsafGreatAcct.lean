/-
  'vault.acct' (156).
-/
import Derived.Test.YgcsafGreatLawsV
namespace Go.Proofs.YgcsafGreat
open Go.RowKit
set_option linter.unusedVariables false
set_option linter.unusedSimpArgs false

set_option maxRecDepth 100000 in
set_option maxHeartbeats 1000000 in
theorem acct_some (B : Nat) (w : World) (gv : Nat) (s : Vst) (hv : VOk B w gv s) (A : List Nat) (hA : A.length = 20) (dA : D.Dig A) (i : Nat) (x : Ac) (hx : s.accts[i]? = some x) (hxa : x.addr = A) (ht : s.tab (homeN A) = (i : Int)) :
    Calls Safg.prog 156 #[.pointer (some ⟨gv, 0, none⟩), arrV A] w fun e w' => e = .returned (.tuple #[.int .i32 (i : Int), .bool true]) ∧ Below w.heap.size w w' := by
  have HF := fun (w : World) (hv : VOk B w gv s) => findAcct_some B w gv s hv A hA dA i x hx hxa ht
  have t1 : decide ((0 : Int) ≤ (i : Int)) = true := decide_eq_true (by omega)
  go_enter Safg.func156, Safg.ntmps156
  go_wp2_with (first | (refine wpList_box_arr rfl 33 (.tmp 1) rfl A rfl ?_; intro w1 g3 hg3 o3 b3) | (refine wpList_load_arr rfl 33 (.tmp 3) rfl g3 rfl A o3 20 5 Safg.under33 (by rw [hA]; exact Safg.size33) ?_) | (go_at_call 173; refine (HF _ (hv.below b3)).mono ?_; rintro e w4 ⟨rfl, b4⟩))
  go_ret2
  exact ⟨rfl, b3.trans (b4.mono b3.size)⟩

/-- A new account. -/
def newAc (A : List Nat) : Ac := ⟨A, 0, Wd4.zero, .slice none 0 0, false, false, false⟩
theorem zero_ok : Wd4.zero.Ok := ⟨by decide, by decide, by decide, by decide⟩
theorem newAc_ok {A : List Nat} (hA : A.length = 20) (dA : D.Dig A) : (newAc A).Ok := ⟨hA, dA, by show 0 < _; omega, zero_ok, rfl⟩
def putTab (t : Nat → Int) (p : Nat) (v : Int) (j : Nat) : Int := if j = p then v else t j
theorem list20 {A : List Nat} (h : A.length = 20) : ∃ a0 a1 a2 a3 a4 a5 a6 a7 a8 a9 a10 a11 a12 a13 a14 a15 a16 a17 a18 a19, A = [a0, a1, a2, a3, a4, a5, a6, a7, a8, a9, a10, a11, a12, a13, a14, a15, a16, a17, a18, a19] := by
  match A, h with
  | [a0, a1, a2, a3, a4, a5, a6, a7, a8, a9, a10, a11, a12, a13, a14, a15, a16, a17, a18, a19], _ => exact ⟨a0, a1, a2, a3, a4, a5, a6, a7, a8, a9, a10, a11, a12, a13, a14, a15, a16, a17, a18, a19, rfl⟩
set_option maxRecDepth 100000 in
theorem built220 {A : List Nat} (hA : A.length = 20) : Safg.prog.built 220 [(0, arrV A)] = some (newAc A).cells.toArray := by
  obtain ⟨a0, a1, a2, a3, a4, a5, a6, a7, a8, a9, a10, a11, a12, a13, a14, a15, a16, a17, a18, a19, rfl⟩ := list20 hA
  kernel_rfl
theorem newAc_length {A : List Nat} (hA : A.length = 20) : (newAc A).cells.length = 29 := Ac.length hA
theorem Ac.cells_one {x : Ac} (h : x.code.oneCell' = true) : ∀ u ∈ x.cells, u.oneCell' = true := by
  intro u hu
  rcases List.mem_append.1 hu with h1 | h1
  · exact cellsL_one _ u h1
  · unfold Ac.rest at h1
    rcases List.mem_cons.1 h1 with rfl | h1
    · rfl
    · rcases List.mem_append.1 h1 with h1 | h1
      · exact Wd4.one _ u h1
      · simp only [List.mem_cons, List.not_mem_nil, or_false] at h1
        rcases h1 with rfl | rfl | rfl | rfl
        · exact h
        · rfl
        · rfl
        · rfl
set_option maxRecDepth 100000 in
theorem Safg.size220 : (Safg.prog.info? 220).map (·.size) = some 29 := by kernel_rfl
set_option maxRecDepth 100000 in
theorem Safg.zcells220 : ((Safg.prog.info? 220).bind (·.zero)).map (·.cells.size) = some 29 := by kernel_rfl
set_option maxRecDepth 100000 in
theorem Safg.info220 : (Safg.prog.info? 220).map (fun i => (i.zero.map (·.cells.size), i.size, i.bytes)) = some (some 29, 29, 96) := by kernel_rfl

theorem info220' : ∃ i z, Safg.prog.info? 220 = some i ∧ i.zero = some z ∧ i.size = 29 ∧ i.bytes = 96 ∧ z.cells.size = 29 := by
  obtain ⟨i, hi, h⟩ := Option.map_eq_some_iff.1 Safg.info220
  simp only [Prod.mk.injEq] at h
  obtain ⟨h1, h2, h3⟩ := h
  obtain ⟨z, hz, h4⟩ := Option.map_eq_some_iff.1 h1
  exact ⟨i, z, hi, hz, h2, h3, h4⟩
theorem RowV.far {w : World} {g gv cap : Nat} {vs : List Value} (h : RowV w g cap vs) (hne : g ≠ gv) (o : Nat) (u : Value) : RowV (w.setCell ⟨gv, o, none⟩ u) g cap vs :=
  h.turn (Turn.of_only ((Only.refl gv w).setCell o u)) (by simpa using hne)
theorem VecS.far {size B : Nat} {w : World} {gv : Nat} {v : Value} {k : Nat} {vs : List Value} (h : VecS size B w v k vs) (hne : v.ownBlock ≠ some gv) (o : Nat) (u : Value) : VecS size B (w.setCell ⟨gv, o, none⟩ u) v k vs :=
  h.turn (Turn.of_only ((Only.refl gv w).setCell o u)) (fun g hg => by simp; rintro rfl; exact hne hg)
theorem cell_off {w : World} {g o o' : Nat} {u : Value} (h : o ≠ o') : (w.setCell ⟨g, o, none⟩ u).cell? ⟨g, o', none⟩ = w.cell? ⟨g, o', none⟩ :=
  World.cell?_setCell_other _ _ _ _ (by intro e; injection e with _ e2; exact h e2)

/-- The arena has grown by one account. -/
theorem VOk.grow {B : Nat} {w w6 : World} {gv : Nat} {s : Vst} (h : VOk B w gv s) (t : Turn s.av.ownBlock.toList w w6) {g' cap' : Nat} {x : Ac} (r : RowV w6 g' (cap' * 29) (acells s.accts ++ x.cells)) (hx : x.Ok) (hB : B ≤ g') (hcap : s.accts.length + 1 ≤ cap') (hm : cap' ≤ maxLen) (hfew : s.accts.length < 8)
    (hor : s.av.ownBlock = some g' ∨ w.heap.size ≤ g') :
    VOk B (w6.setCell ⟨gv, 0, none⟩ (.slice (some ⟨g', 0, none⟩) (s.accts.length + 1) cap')) gv { s with accts := s.accts ++ [x], av := .slice (some ⟨g', 0, none⟩) (s.accts.length + 1) cap' } := by
  have hgv : gv ∉ s.av.ownBlock.toList := by
    intro hm
    apply h.apA
    simpa using hm
  have hne : g' ≠ gv := by
    rcases hor with h1 | h1
    · rintro rfl; exact h.apA h1
    · have := h.lt; omega
  have e : ∀ o, w6.cell? ⟨gv, o, none⟩ = w.cell? ⟨gv, o, none⟩ := fun o => t.cell (p := ⟨gv, o, none⟩) h.lt hgv
  have hc : ∀ o, 0 ≠ o → (w6.setCell ⟨gv, 0, none⟩ (.slice (some ⟨g', 0, none⟩) (s.accts.length + 1) cap')).cell? ⟨gv, o, none⟩ = w.cell? ⟨gv, o, none⟩ := fun o ho => by rw [cell_off ho, e]
  have hjt : VecS 9 B w6 s.jv s.jn s.js := h.vJ.turn t (fun g hg hm => h.apAJ g (by simpa using hm) hg)
  have hjg : s.jv.ownBlock ≠ some g' := by
    rcases hor with h1 | h1
    · exact h.apAJ g' h1
    · intro hj
      rcases h.vJ with ⟨h2, _, _⟩ | ⟨g, cap, h2, _, r2, _⟩
      · rw [h2] at hj; cases hj
      · rw [h2] at hj
        obtain rfl : g = g' := by simpa [Value.ownBlock] using hj
        have := r2.lt; omega
  have len : (s.accts ++ [x]).length = s.accts.length + 1 := by simp
  have cellsE : acells (s.accts ++ [x]) = acells s.accts ++ x.cells := by simp [acells]
  have okAll : ∀ y ∈ s.accts ++ [x], y.Ok := fun y hy => by
    rcases List.mem_append.1 hy with h1 | h1
    · exact h.ok y h1
    · obtain rfl : y = x := by simpa using h1
      exact hx
  refine ⟨?_, fun o => ?_, ?_, ?_, ?_, fun j hj => ?_, ?_, ?_, fun j hj => ?_, ?_, ?_, ?_, okAll, ?_, h.jfew, ?_, h.apJ, ?_⟩
  · simp [World.setCell]; exact Nat.lt_of_lt_of_le h.lt t.size
  · rw [World.frozen?_setCell, t.frozen (p := ⟨gv, o, none⟩) h.lt hgv]; exact h.free o
  · exact World.cell?_setCell_same _ _ _ (by rw [e]; exact h.cA)
  · refine .inr ⟨g', cap', by rw [len], hB, ?_, ?_, by rw [len]; exact hcap, hm⟩
    · rw [cellsE]; exact r.far hne 0 _
    · rw [acells_length (fun y hy => (okAll y hy).len)]
  · rw [hc 1 (by omega)]; exact h.cS
  · rw [hc (2 + j) (by omega)]; exact h.cT j hj
  · rw [hc 8194 (by omega)]; exact h.cJ
  · exact hjt.far h.apJ 0 _
  · rw [hc (8195 + j) (by omega)]; exact h.cM j hj
  · rw [hc 24579 (by omega)]; exact h.cN
  · rw [hc 24580 (by omega)]; exact h.cR
  · rw [hc 24581 (by omega)]; exact h.cL
  · show (s.accts ++ [x]).length ≤ 8; omega
  · intro hh; apply hne; simpa [Value.ownBlock] using hh
  · intro g hg
    obtain rfl : g' = g := by simpa [Value.ownBlock] using hg
    exact hjg
/-- A place of the table is laid. -/
theorem VOk.setTab {B : Nat} {w : World} {gv : Nat} {s : Vst} (h : VOk B w gv s) {p : Nat} (hp : p < 4096) (v : Int) : VOk B (w.setCell ⟨gv, 2 + p, none⟩ (.int .i32 v)) gv { s with tab := putTab s.tab p v } := by
  have hc : ∀ o, 2 + p ≠ o → (w.setCell ⟨gv, 2 + p, none⟩ (.int .i32 v)).cell? ⟨gv, o, none⟩ = w.cell? ⟨gv, o, none⟩ := fun o ho => cell_off ho
  refine ⟨?_, fun o => ?_, ?_, h.vA.far h.apA _ _, ?_, fun j hj => ?_, ?_, h.vJ.far h.apJ _ _, fun j hj => ?_, ?_, ?_, ?_, h.ok, h.few, h.jfew, h.apA, h.apJ, h.apAJ⟩
  · simp [World.setCell]; exact h.lt
  · rw [World.frozen?_setCell]; exact h.free o
  · rw [hc 0 (by omega)]; exact h.cA
  · rw [hc 1 (by omega)]; exact h.cS
  · show _ = some (Value.int .i32 (putTab s.tab p v j))
    unfold putTab
    by_cases e : j = p
    · subst e
      rw [if_pos rfl]
      exact World.cell?_setCell_same _ _ _ (h.cT j hj)
    · rw [if_neg e, hc (2 + j) (by omega)]; exact h.cT j hj
  · rw [hc 8194 (by omega)]; exact h.cJ
  · rw [hc (8195 + j) (by omega)]; exact h.cM j hj
  · rw [hc 24579 (by omega)]; exact h.cN
  · rw [hc 24580 (by omega)]; exact h.cR
  · rw [hc 24581 (by omega)]; exact h.cL

theorem run_op_build {w : World} {t : TypeId} {parts : Array (Nat × Value)} {cells : Array Value} (h : Safg.prog.built t parts.toList = some cells) : ((Instr.build t parts).run Safg.prog w).andThen (fun a w' => Sem.run Safg.prog (pure (Next.value a)) w') = .ok (.value (.agg cells)) w := by
  rw [run_build w t parts cells h]; rfl
theorem yieldsIf_build {ops : Array Oper} {S : World → Prop} {o : Oper} {a : Act} (hw : Region.wanted o (yielded ops a.tmps) = true) (t : TypeId) (parts : Array (Nat × Operand)) (ho : o.op = .build t parts) (L : List (Nat × Value)) (hL : parts.toList.map (fun x => (x.1, a.eval x.2)) = L) (cells : Array Value) (hb : Safg.prog.built t L = some cells) :
    YieldsIf Safg.prog ops S o (.agg cells) a :=
  Or.inl ⟨hw, fun w _ => by
    have e : (parts.map fun (i, x) => (i, a.eval x)).toList = L := by rw [Array.toList_map]; exact hL
    have := run_build (P := Safg.prog) w t (parts.map fun (i, x) => (i, a.eval x)) cells (by rw [e]; exact hb)
    unfold execOp
    simp only [ho, Sem.run_bind, this, Result.andThen_ok, Sem.run_pure]⟩
theorem VOk.slice {B : Nat} {w : World} {gv : Nat} {s : Vst} (h : VOk B w gv s) : ∃ a c, s.av = .slice a s.accts.length c := by
  rcases h.vA with ⟨h1, h2, _⟩ | ⟨g, cap, h1, _⟩
  · exact ⟨none, 0, by rw [h1, h2]⟩
  · exact ⟨_, _, h1⟩

/-- What a new account leaves. -/
def AcctPost (B : Nat) (w : World) (gv : Nat) (s : Vst) (A : List Nat) (e : Ending) (w' : World) : Prop :=
  ∃ s', e = .returned (.tuple #[.int .i32 (s.accts.length : Int), .bool true]) ∧ s'.accts = s.accts ++ [newAc A] ∧ s'.tab = putTab s.tab (homeN A) (s.accts.length : Int) ∧ s'.jn = s.jn ∧ s'.js = s.js ∧ s'.jv = s.jv ∧ s'.nm = s.nm ∧ VOk B w' gv s' ∧ Turn (gv :: s.av.ownBlock.toList) w w' ∧ (s'.av.ownBlock = s.av.ownBlock ∨ ∀ g, s'.av.ownBlock = some g → w.heap.size ≤ g)

set_option maxRecDepth 100000 in
set_option maxHeartbeats 4000000 in
theorem acct_new (B : Nat) (w : World) (gv : Nat) (s : Vst) (hv : VOk B w gv s) (A : List Nat) (hA : A.length = 20) (dA : D.Dig A) (ht : s.tab (homeN A) = -1) (hfew : s.accts.length < 8) (hB : B ≤ w.heap.size) :
    Calls Safg.prog 156 #[.pointer (some ⟨gv, 0, none⟩), arrV A] w (AcctPost B w gv s A) := by
  have HF := fun (w : World) (hv : VOk B w gv s) => findAcct_none B w gv s hv A hA dA ht
  have hh : homeN A < 4096 := Nat.mod_lt _ (by omega)
  obtain ⟨i, z, hi, hz, hsz, hby, hzs⟩ := info220'
  obtain ⟨av, ac, hav⟩ := hv.slice
  have HP : Hid (AcctPost B w gv s A = AcctPost B w gv s A) := rfl
  obtain ⟨p, hp⟩ : ∃ p, homeN A = p := ⟨_, rfl⟩
  have HPP : Hid (homeN A = p) := hp
  simp only [hp] at HF
  rw [hp] at hh
  obtain ⟨n, hn⟩ : ∃ n, s.accts.length = n := ⟨_, rfl⟩
  have HN : Hid (s.accts.length = n) := hn
  rw [hn] at hav hfew
  have t1 : decide ((n : Int) ≥ 2560) = false := decide_eq_false (by omega)
  have t2 : decide ((2560 : Int) ≤ (n : Int)) = false := decide_eq_false (by omega)
  have q1 : IntKind.i32.wrap (n : Int) = (n : Int) := by simp [IntKind.wrap, IntKind.bits, IntKind.signed]; omega
  clear hn hp
  go_enter Safg.func156, Safg.ntmps156
  go_upto_region 2 with (first | (refine wpList_box_arr rfl 33 (.tmp 1) rfl A rfl ?_; intro w1 g3 hg3 o3 b3) | (refine wpList_load_arr rfl 33 (.tmp 3) rfl g3 rfl A o3 20 5 Safg.under33 (by rw [hA]; exact Safg.size33) ?_) | (go_at_call 173; refine (HF _ (hv.below b3)).mono ?_; rintro e w4 ⟨rfl, b4⟩))
  have bb : Below w.heap.size w w4 := b3.trans (b4.mono b3.size)
  have o4 : Own w4 g3 A := o3.below b4 o3.lt
  have hv4 := hv.below bb
  have cA := hv4.cA
  rw [hav] at cA
  have ng3 : g3 ≠ gv := by have := hv.lt; omega
  have s34 := b3.size; have s44 := b4.size
  clear b3 b4 o3 HF
  go_upto_region 7 with fail
  have oD : Own w4.drew g3 A := (Same.drew w4).own o4
  have hvD : VOk B w4.drew gv s := hv4.same (Same.drew w4)
  have cAD : w4.drew.cell? ⟨gv, 0, none⟩ = some (.slice av n ac) := cA
  have bbD : Below w.heap.size w w4.drew := bb.trans ((Turn.drew_below w4).mono bb.size)
  have navg : ∀ g, s.av.ownBlock = some g → g < w.heap.size := fun g hg => by
    rcases hv.vA with ⟨h1, _, _⟩ | ⟨g', cap, h1, _, r, _⟩
    · rw [h1] at hg; cases hg
    · rw [h1] at hg
      obtain rfl : g' = g := by simpa [Value.ownBlock] using hg
      exact r.lt
  refine wp_region_held_drew (S := fun w' => Own w' g3 A) (by kernel_rfl) oD (fun hHeld => ?_)
  refine wpAnyH_take' (i := 0) (d := 33) (v := .pointer (some ⟨gv, 0, none⟩)) rfl rfl (by kernel_rfl) (by kernel_rfl) (by kernel_rfl) (fun _ _ _ h => h) (Or.inl ⟨by rfl, fun w hw => by go_simp⟩) hHeld ?_
  simp only [Act.put, List.setIfInBounds_toArray, List.set_cons_zero, List.set_cons_succ]
  refine wpAnyH_take' (i := 1) (d := 34) (v := .pointer (some ⟨gv, 0, none⟩)) rfl rfl (by kernel_rfl) (by kernel_rfl) (by kernel_rfl) (fun _ _ _ h => h) (Or.inl ⟨by rfl, fun w hw => by go_simp⟩) hHeld ?_
  simp only [Act.put, List.setIfInBounds_toArray, List.set_cons_zero, List.set_cons_succ]
  refine wpAnyH_take' (i := 2) (d := 35) (v := .pointer (some ⟨gv, 0, none⟩)) rfl rfl (by kernel_rfl) (by kernel_rfl) (by kernel_rfl) (fun _ _ _ h => h) (Or.inl ⟨by rfl, fun w hw => by go_simp⟩) hHeld ?_
  simp only [Act.put, List.setIfInBounds_toArray, List.set_cons_zero, List.set_cons_succ]
  refine wpAnyH_take' (i := 3) (d := 36) (v := .pointer (some ⟨gv, 0, none⟩)) rfl rfl (by kernel_rfl) (by kernel_rfl) (by kernel_rfl) (fun _ _ _ h => h) (Or.inl ⟨by rfl, fun w hw => by go_simp⟩) hHeld ?_
  simp only [Act.put, List.setIfInBounds_toArray, List.set_cons_zero, List.set_cons_succ]
  refine wpAnyH_take' (i := 5) (d := 38) (v := arrV A) rfl rfl (by kernel_rfl) (by kernel_rfl) (by kernel_rfl) (fun _ _ _ h => h) (yieldsIf_load_mid (by rfl) 33 _ rfl g3 0 rfl (cellsL A) _ (fun w hw => hw.range) Safg.under33 rfl (by rw [cellsL_length, hA]; exact Safg.size33)) hHeld ?_
  simp only [Act.put, List.setIfInBounds_toArray, List.set_cons_zero, List.set_cons_succ]
  refine wpAnyH_take' (i := 6) (d := 39) (v := .agg (newAc A).cells.toArray) rfl rfl (by kernel_rfl) (by kernel_rfl) (by kernel_rfl) (fun _ _ _ h => h) (yieldsIf_build (by rfl) 220 _ rfl [(0, arrV A)] rfl _ (built220 hA)) hHeld ?_
  simp only [Act.put, List.setIfInBounds_toArray, List.set_cons_zero, List.set_cons_succ]
  refine wpAnyH_twoK 4 7 (by kernel_rfl) rfl rfl rfl rfl ?_ ?_
  · intro K hK
    go_simp
    refine hK.out _ _ oD ?_
    clear hK K
    try simp only [Act.put, List.setIfInBounds_toArray, List.set_cons_zero, List.set_cons_succ]
    refine wpAnyH_list 7 (by kernel_rfl) rfl rfl ?_
    refine wpList_slice1 rfl 83 220 (.tmp 39) rfl (newAc A).cells rfl Safg.underlying83 (by rw [newAc_length hA]; exact Safg.size220) (by rw [newAc_length hA]; exact Safg.zcells220) (by rw [newAc_length hA]; omega) (by rw [newAc_length hA]; omega) ?_
    intro w5 g40 hg40 k40 b5
    have o5 : Own w5 g3 A := oD.below b5 oD.lt
    have hv5 : VOk B w5 gv s := hvD.below b5
    have cA5 := hv5.cA
    rw [hav] at cA5
    have bb5 : Below w.heap.size w w5 := bbD.trans (b5.mono bbD.size)
    have s5 := bb5.size
    refine backTo.nil o5 ?_
    simp only [Act.put, List.setIfInBounds_toArray, List.set_cons_zero, List.set_cons_succ]
    refine wpAnyH_list 8 (by kernel_rfl) rfl rfl ?_
    refine wpList_append_vecS rfl (.tmp 37) (.tmp 40) 83 rfl B 220 i z 29 96 Safg.underlying83 hi hz hsz hby hzs (by omega) s.av s.accts.length (acells s.accts) hav.symm hv5.vA ⟨g40, 0, none⟩ 1 1 (newAc A).cells rfl (by rw [newAc_length hA]) (fun j u hu => by rw [Addr.add_mid]; exact k40.cell j u hu) (Ac.cells_one rfl) (by omega) (by rw [HN.out]; unfold maxLen; omega) (by rw [HN.out]; omega) (by omega) ?_
    intro g' cap' w6 hBg r6 hcap6 hm6 t6 hor6
    have o6 : Own w6 g3 A := t6.own o5 (fun hm => by have := navg g3 (by simpa using hm); omega)
    have hgv6 : gv ∉ s.av.ownBlock.toList := fun hm => hv5.apA (by simpa using hm)
    have c6 : w6.cell? ⟨gv, 0, none⟩ = some (.slice av n ac) := by rw [t6.cell (p := ⟨gv, 0, none⟩) hv5.lt hgv6]; exact cA5
    have f6 : w6.frozen? ⟨gv, 0, none⟩ = false := by rw [t6.frozen (p := ⟨gv, 0, none⟩) hv5.lt hgv6]; exact hv5.free 0
    have hv7 := hv5.grow t6 r6 (newAc_ok hA dA) hBg hcap6 hm6 (by rw [HN.out]; exact hfew) hor6
    have n6 : Only gv w6 (w6.setCell ⟨gv, 0, none⟩ (.slice (some ⟨g', 0, none⟩) (s.accts.length + 1) cap')) := (Only.refl _ _).setCell _ _
    have o7 := n6.own o6 ng3
    have sz6 := t6.size
    have T7 : Turn (gv :: s.av.ownBlock.toList) w (w6.setCell ⟨gv, 0, none⟩ (.slice (some ⟨g', 0, none⟩) (s.accts.length + 1) cap')) := by
      refine (Turn.of_below bb5 (Nat.le_refl _) _).trans ((t6.mono fun k hk => List.mem_cons_of_mem _ hk).trans ((Turn.of_only n6).mono fun k hk => ?_))
      obtain rfl : k = gv := by simpa using hk
      exact List.mem_cons_self
    have FR7 : s.av.ownBlock = some g' ∨ w.heap.size ≤ g' := by
      rcases hor6 with h | h
      · exact .inl h
      · exact .inr (by omega)
    refine backTo.nil o6 ?_
    simp only [Act.put, List.setIfInBounds_toArray, List.set_cons_zero, List.set_cons_succ]
    rw [HN.out] at hv7 T7 o7
    generalize hsl : (s.accts.length + 1) = n1
    refine wpAnyH_take' (i := 9) (d := 42) (v := .pointer (some ⟨gv, 0, none⟩)) rfl rfl (by kernel_rfl) (by kernel_rfl) (by kernel_rfl) (fun _ _ _ h => h) (Or.inl ⟨by rfl, fun w hw => by go_simp⟩) o6 ?_
    simp only [Act.put, List.setIfInBounds_toArray, List.set_cons_zero, List.set_cons_succ]
    refine wpAnyH_take' (i := 10) (d := 43) (v := .pointer (some ⟨gv, 0, none⟩)) rfl rfl (by kernel_rfl) (by kernel_rfl) (by kernel_rfl) (fun _ _ _ h => h) (Or.inl ⟨by rfl, fun w hw => by go_simp⟩) o6 ?_
    simp only [Act.put, List.setIfInBounds_toArray, List.set_cons_zero, List.set_cons_succ]
    obtain rfl : n + 1 = n1 := by rw [← hsl, HN.out]
    refine wpAnyH_oneK 11 (by kernel_rfl) rfl rfl ?_
    intro K hK
    go_simp
    refine hK.out _ _ o7 ?_
    clear hK K
    try simp only [Act.put, List.setIfInBounds_toArray, List.set_cons_zero, List.set_cons_succ]
    refine wpAnyH_done (by kernel_rfl) ?_ _
    have cT := hv7.cT p hh
    have fT := hv7.free (2 + p)
    have vT := hv7.setTab hh (n : Int)
    clear c6 f6 n6 o7 o6 r6 t6 hsl
    generalize w6.setCell ⟨gv, 0, none⟩ (.slice (some ⟨g', 0, none⟩) (n + 1) cap') = w7 at *
    have n8 : Only gv w7 (w7.setCell ⟨gv, 2 + p, none⟩ (.int .i32 (n : Int))) := (Only.refl _ _).setCell _ _
    go_wp2
    go_ret2
    refine ⟨{ s with accts := s.accts ++ [newAc A], tab := putTab s.tab p (n : Int), av := .slice (some ⟨g', 0, none⟩) (n + 1) cap' }, by rw [HN.out]; rfl, rfl, by rw [HPP.out, HN.out], rfl, rfl, rfl, rfl, vT, T7.trans ((Turn.of_only n8).mono fun k hk => ?_), ?_⟩
    · obtain rfl : k = gv := by simpa using hk
      exact List.mem_cons_self
    · rcases FR7 with h | h
      · exact .inl h.symm
      · refine .inr fun g hg => ?_
        obtain rfl : g' = g := by simpa [Value.ownBlock] using hg
        exact h
  · refine wpList_slice1 rfl 83 220 (.tmp 39) rfl (newAc A).cells rfl Safg.underlying83 (by rw [newAc_length hA]; exact Safg.size220) (by rw [newAc_length hA]; exact Safg.zcells220) (by rw [newAc_length hA]; omega) (by rw [newAc_length hA]; omega) ?_
    intro w5 g40 hg40 k40 b5
    have o5 : Own w5 g3 A := oD.below b5 oD.lt
    have hv5 : VOk B w5 gv s := hvD.below b5
    have cA5 := hv5.cA
    rw [hav] at cA5
    have bb5 : Below w.heap.size w w5 := bbD.trans (b5.mono bbD.size)
    have s5 := bb5.size
    refine backTo.nil o5 ?_
    simp only [Act.put, List.setIfInBounds_toArray, List.set_cons_zero, List.set_cons_succ]
    refine wpAnyH_oneK 4 (by kernel_rfl) rfl rfl ?_
    intro K hK
    go_simp
    refine hK.out _ _ o5 ?_
    clear hK K
    try simp only [Act.put, List.setIfInBounds_toArray, List.set_cons_zero, List.set_cons_succ]
    refine wpAnyH_list 8 (by kernel_rfl) rfl rfl ?_
    refine wpList_append_vecS rfl (.tmp 37) (.tmp 40) 83 rfl B 220 i z 29 96 Safg.underlying83 hi hz hsz hby hzs (by omega) s.av s.accts.length (acells s.accts) hav.symm hv5.vA ⟨g40, 0, none⟩ 1 1 (newAc A).cells rfl (by rw [newAc_length hA]) (fun j u hu => by rw [Addr.add_mid]; exact k40.cell j u hu) (Ac.cells_one rfl) (by omega) (by rw [HN.out]; unfold maxLen; omega) (by rw [HN.out]; omega) (by omega) ?_
    intro g' cap' w6 hBg r6 hcap6 hm6 t6 hor6
    have o6 : Own w6 g3 A := t6.own o5 (fun hm => by have := navg g3 (by simpa using hm); omega)
    have hgv6 : gv ∉ s.av.ownBlock.toList := fun hm => hv5.apA (by simpa using hm)
    have c6 : w6.cell? ⟨gv, 0, none⟩ = some (.slice av n ac) := by rw [t6.cell (p := ⟨gv, 0, none⟩) hv5.lt hgv6]; exact cA5
    have f6 : w6.frozen? ⟨gv, 0, none⟩ = false := by rw [t6.frozen (p := ⟨gv, 0, none⟩) hv5.lt hgv6]; exact hv5.free 0
    have hv7 := hv5.grow t6 r6 (newAc_ok hA dA) hBg hcap6 hm6 (by rw [HN.out]; exact hfew) hor6
    have n6 : Only gv w6 (w6.setCell ⟨gv, 0, none⟩ (.slice (some ⟨g', 0, none⟩) (s.accts.length + 1) cap')) := (Only.refl _ _).setCell _ _
    have o7 := n6.own o6 ng3
    have sz6 := t6.size
    have T7 : Turn (gv :: s.av.ownBlock.toList) w (w6.setCell ⟨gv, 0, none⟩ (.slice (some ⟨g', 0, none⟩) (s.accts.length + 1) cap')) := by
      refine (Turn.of_below bb5 (Nat.le_refl _) _).trans ((t6.mono fun k hk => List.mem_cons_of_mem _ hk).trans ((Turn.of_only n6).mono fun k hk => ?_))
      obtain rfl : k = gv := by simpa using hk
      exact List.mem_cons_self
    have FR7 : s.av.ownBlock = some g' ∨ w.heap.size ≤ g' := by
      rcases hor6 with h | h
      · exact .inl h
      · exact .inr (by omega)
    refine backTo.nil o6 ?_
    simp only [Act.put, List.setIfInBounds_toArray, List.set_cons_zero, List.set_cons_succ]
    rw [HN.out] at hv7 T7 o7
    generalize hsl : (s.accts.length + 1) = n1
    refine wpAnyH_take' (i := 9) (d := 42) (v := .pointer (some ⟨gv, 0, none⟩)) rfl rfl (by kernel_rfl) (by kernel_rfl) (by kernel_rfl) (fun _ _ _ h => h) (Or.inl ⟨by rfl, fun w hw => by go_simp⟩) o6 ?_
    simp only [Act.put, List.setIfInBounds_toArray, List.set_cons_zero, List.set_cons_succ]
    refine wpAnyH_take' (i := 10) (d := 43) (v := .pointer (some ⟨gv, 0, none⟩)) rfl rfl (by kernel_rfl) (by kernel_rfl) (by kernel_rfl) (fun _ _ _ h => h) (Or.inl ⟨by rfl, fun w hw => by go_simp⟩) o6 ?_
    simp only [Act.put, List.setIfInBounds_toArray, List.set_cons_zero, List.set_cons_succ]
    obtain rfl : n + 1 = n1 := by rw [← hsl, HN.out]
    refine wpAnyH_oneK 11 (by kernel_rfl) rfl rfl ?_
    intro K hK
    go_simp
    refine hK.out _ _ o7 ?_
    clear hK K
    try simp only [Act.put, List.setIfInBounds_toArray, List.set_cons_zero, List.set_cons_succ]
    refine wpAnyH_done (by kernel_rfl) ?_ _
    have cT := hv7.cT p hh
    have fT := hv7.free (2 + p)
    have vT := hv7.setTab hh (n : Int)
    clear c6 f6 n6 o7 o6 r6 t6 hsl
    generalize w6.setCell ⟨gv, 0, none⟩ (.slice (some ⟨g', 0, none⟩) (n + 1) cap') = w7 at *
    have n8 : Only gv w7 (w7.setCell ⟨gv, 2 + p, none⟩ (.int .i32 (n : Int))) := (Only.refl _ _).setCell _ _
    go_wp2
    go_ret2
    refine ⟨{ s with accts := s.accts ++ [newAc A], tab := putTab s.tab p (n : Int), av := .slice (some ⟨g', 0, none⟩) (n + 1) cap' }, by rw [HN.out]; rfl, rfl, by rw [HPP.out, HN.out], rfl, rfl, rfl, rfl, vT, T7.trans ((Turn.of_only n8).mono fun k hk => ?_), ?_⟩
    · obtain rfl : k = gv := by simpa using hk
      exact List.mem_cons_self
    · rcases FR7 with h | h
      · exact .inl h.symm
      · refine .inr fun g hg => ?_
        obtain rfl : g' = g := by simpa [Value.ownBlock] using hg
        exact h
end Go.Proofs.YgcsafGreat
