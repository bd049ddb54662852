/-
  'vault.Fill' (50) of the stage, 'vault.New' (14).
-/
import Derived.Test.YgcsafGreatWOK
import Derived.Test.YgcsafGreatVEnd
namespace Go.Proofs.YgcsafGreat
open Go.RowKit
set_option linter.unusedVariables false
set_option linter.unusedSimpArgs false

theorem VOk.setS {B : Nat} {w : World} {gv : Nat} {s : Vst} (h : VOk B w gv s) {p : Nat} (hp : p < 4096) (v : Value) : VOk B (w.setCell ⟨gv, 4098 + p, none⟩ v) gv s := by
  have hc : ∀ o, 4098 + p ≠ o → (w.setCell ⟨gv, 4098 + p, none⟩ v).cell? ⟨gv, o, none⟩ = w.cell? ⟨gv, o, none⟩ := fun o ho => cell_off ho
  refine ⟨?_, fun o => ?_, ?_, h.vA.far h.apA _ _, ?_, fun j hj => ?_, ?_, h.vJ.far h.apJ _ _, fun j hj => ?_, ?_, ?_, ?_, h.ok, h.few, h.jfew, h.apA, h.apJ, h.apAJ⟩
  · simp [World.setCell]; exact h.lt
  · rw [World.frozen?_setCell]; exact h.free o
  · rw [hc 0 (by omega)]; exact h.cA
  · rw [hc 1 (by omega)]; exact h.cS
  · rw [hc (2 + j) (by omega)]; exact h.cT j hj
  · rw [hc 8194 (by omega)]; exact h.cJ
  · rw [hc (8195 + j) (by omega)]; exact h.cM j hj
  · rw [hc 24579 (by omega)]; exact h.cN
  · rw [hc 24580 (by omega)]; exact h.cR
  · rw [hc 24581 (by omega)]; exact h.cL
theorem VOk.tabEq {B : Nat} {w : World} {gv : Nat} {s : Vst} (h : VOk B w gv s) (t : Nat → Int) (he : ∀ j, j < 4096 → s.tab j = t j) : VOk B w gv { s with tab := t } :=
  ⟨h.lt, h.free, h.cA, h.vA, h.cS, fun j hj => by show _ = some (Value.int .i32 (t j)); rw [← he j hj]; exact h.cT j hj, h.cJ, h.vJ, h.cM, h.cN, h.cR, h.cL, h.ok, h.few, h.jfew, h.apA, h.apJ, h.apAJ⟩
def nilV : Value := .slice none 0 0
def vst0 (t : Nat → Int) : Vst := ⟨[], t, 0, [], nilV, nilV, 0⟩
/-- The slots' table. -/
def STab (w : World) (gv : Nat) : Prop := ∀ j, j < 4096 → ∃ z, w.cell? ⟨gv, 4098 + j, none⟩ = some (.int .i32 z)
theorem Ac.set_code {x : Ac} (h : x.addr.length = 20) (v : Value) : ({ x with code := v } : Ac).cells = x.cells.take 25 ++ ([v] ++ x.cells.drop 26) := by
  have e : x.cells = cellsL x.addr ++ x.rest := rfl
  rw [e, List.take_append, List.drop_append, cellsL_length, h, List.take_of_length_le (by rw [cellsL_length, h]; omega), List.drop_eq_nil_of_le (by rw [cellsL_length, h]; omega)]
  simp [Ac.cells, Ac.rest, Wd4.cells]
/-- A code in the vault. -/
def CodeIs (w : World) (v : Value) (C : List Nat) : Prop := (v = .slice none 0 0 ∧ C = []) ∨ ∃ g, v = .slice (some ⟨g, 0, none⟩) C.length C.length ∧ 0 < C.length ∧ Own w g C
theorem range_rd {w : World} {g off : Nat} {A : List Nat} (h : Rd w (some ⟨g, off, none⟩) 20 A) : w.rangeAt g off (cellsL A) := fun j v hv => by
  have hl := h.length
  unfold cellsL at hv
  rw [List.getElem?_map] at hv
  obtain ⟨x, hx, rfl⟩ := Option.map_eq_some_iff.1 hv
  have hj := (List.getElem?_eq_some_iff.1 hx).1
  obtain ⟨b, o, h1, h2, h3⟩ := h.cell j (by omega)
  injection h1 with h1
  injection h1 with h1 h4
  subst h1 h4
  rw [h3, List.getD_eq_getElem?_getD, hx]
  rfl
/-- One account of the stage. -/
structure Acs (w : World) (gw off : Nat) (A : List Nat) (n : Nat) (Lb : List Nat) (a : Option Addr) (k c : Nat) (C : List Nat) : Prop where
  lt : gw < w.heap.size
  r : Rd w (some ⟨gw, off, none⟩) 20 A
  nn : w.cell? ⟨gw, off + 20, none⟩ = some (.int .u64 (n : Int))
  bb : w.rangeAt gw (off + 21) (cellsL Lb)
  cc : w.cell? ⟨gw, off + 53, none⟩ = some (.slice a k c)
  ss : w.cell? ⟨gw, off + 54, none⟩ = some (.slice none 0 0)
  cd : (a = none ∧ k = 0 ∧ c = 0 ∧ C = []) ∨ (0 < k ∧ k ≤ 65536 ∧ Rd w a k C)
theorem vcopied_acs (w : World) (a : Option Addr) (k c : Nat) (C : List Nat) (h : (a = none ∧ k = 0 ∧ c = 0 ∧ C = []) ∨ (0 < k ∧ k ≤ 65536 ∧ Rd w a k C)) :
    Calls Safg.prog 157 #[.slice a k c] w fun e w' => ∃ va vk vp, e = .returned (.slice va vk vp) ∧ (∀ g, (Value.slice va vk vp).ownBlock = some g → w.heap.size ≤ g) ∧ CodeIs w' (.slice va vk vp) C ∧ Below w.heap.size w w' := by
  rcases h with ⟨rfl, rfl, rfl, rfl⟩ | ⟨h1, h2, h3⟩
  · exact (vcopied_nil w).mono fun e w' ⟨h1, h2⟩ => by subst h2; exact ⟨_, _, _, h1, fun g hg => by simp [Value.ownBlock] at hg, .inl ⟨rfl, rfl⟩, Below.refl _ _⟩
  · refine (vcopied_any w a k c C h3 h1 h2).mono fun e w' ⟨g, h4, h5, h6, h7⟩ => ⟨_, _, _, h4, fun g' hg => ?_, .inr ⟨g, ?_, by rw [h3.length]; exact h1, h6⟩, h7⟩
    · obtain rfl : g = g' := by simpa [Value.ownBlock] using hg
      exact h5
    · rw [h3.length]

/-- What 'Fill' leaves. -/
def FillPost (B : Nat) (w : World) (gv : Nat) (A0 A1 L C : List Nat) (e : Ending) (w' : World) : Prop :=
  ∃ s v, e = .returned (.bool true) ∧ VOk B w' gv s ∧ s.accts = [⟨A0, 1, wdOf (List.replicate 32 0), v, false, false, false⟩, ⟨A1, 0, wdOf L, .slice none 0 0, false, false, false⟩] ∧ s.tab = putTab (putTab (fun _ => -1) (homeN A0) 0) (homeN A1) 1 ∧ s.jn = 0 ∧ s.nm = 0 ∧ CodeIs w' v C ∧ Turn [gv] w w' ∧ (∀ g, v.ownBlock = some g → w.heap.size ≤ g) ∧ (∀ g, s.av.ownBlock = some g → w.heap.size ≤ g) ∧ s.jv = nilV

/-- How far the filling is. -/
def FRel (A0 A1 L C : List Nat) (w0 w : World) (j : Nat) (s : Vst) : Prop :=
  (j = 0 ∧ s.accts = [] ∧ s.tab = fun _ => -1) ∨
  (∃ v, CodeIs w v C ∧ (∀ g, v.ownBlock = some g → w0.heap.size ≤ g ∧ s.av.ownBlock ≠ some g) ∧
    ((j = 1 ∧ s.accts = [⟨A0, 1, wdOf (List.replicate 32 0), v, false, false, false⟩] ∧ s.tab = putTab (fun _ => -1) (homeN A0) 0) ∨
     (j = 2 ∧ s.accts = [⟨A0, 1, wdOf (List.replicate 32 0), v, false, false, false⟩, ⟨A1, 0, wdOf L, .slice none 0 0, false, false, false⟩] ∧ s.tab = putTab (putTab (fun _ => -1) (homeN A0) 0) (homeN A1) 1)))
theorem set_last {l : List Ac} {j : Nat} (h : l.length = j) {x y : Ac} : (l ++ [x]).set j y = l ++ [y] := by
  subst h
  simp
theorem CodeIs.only {w w' : World} {g : Nat} {v : Value} {C : List Nat} (h : CodeIs w v C) (o : Only g w w') (hn : ∀ k, v.ownBlock = some k → k ≠ g) : CodeIs w' v C := by
  rcases h with h | ⟨k, h1, h0, h2⟩
  · exact .inl h
  · exact .inr ⟨k, h1, h0, o.own h2 (hn k (by rw [h1]; rfl))⟩
theorem Own.turn {S : List Nat} {w w' : World} {g : Nat} {L : List Nat} (h : Own w g L) (t : Turn S w w') (hn : g ∉ S) : Own w' g L :=
  ⟨Nat.lt_of_lt_of_le h.lt t.size, fun j hj => by rw [t.cell (p := ⟨g, j, none⟩) h.lt hn]; exact h.cell j hj, fun o => by rw [t.frozen (p := ⟨g, o, none⟩) h.lt hn]; exact h.free o⟩
theorem CodeIs.turn {S : List Nat} {w w' : World} {v : Value} {C : List Nat} (h : CodeIs w v C) (t : Turn S w w') (hn : ∀ k, v.ownBlock = some k → k ∉ S) : CodeIs w' v C := by
  rcases h with h | ⟨k, h1, h0, h2⟩
  · exact .inl h
  · exact .inr ⟨k, h1, h0, h2.turn t (hn k (by rw [h1]; rfl))⟩
theorem CodeIs.blk {w : World} {v : Value} {C : List Nat} (h : CodeIs w v C) {g : Nat} (hg : v.ownBlock = some g) : g < w.heap.size := by
  rcases h with ⟨rfl, _⟩ | ⟨k, rfl, _, h2⟩
  · simp [Value.ownBlock] at hg
  · obtain rfl : k = g := by simpa [Value.ownBlock] using hg
    exact h2.lt
theorem Rd.turn' {S : List Nat} {w w' : World} {a : Option Addr} {k : Nat} {C : List Nat} (r : Rd w a k C) (t : Turn S w w') (hn : ∀ p, a = some p → p.block ∉ S) : Rd w' a k C :=
  ⟨r.length, fun i hi => by
    obtain ⟨b, off, h1, h2, h3⟩ := r.cell i hi
    exact ⟨b, off, h1, Nat.lt_of_lt_of_le h2 t.size, by rw [t.cell (p := ⟨b, off + i, none⟩) h2 (by have := hn _ h1; exact this)]; exact h3⟩, r.dig⟩
theorem Acs.turn {S : List Nat} {w w' : World} {gw off : Nat} {A : List Nat} {n : Nat} {Lb : List Nat} {a : Option Addr} {k c : Nat} {C : List Nat} (h : Acs w gw off A n Lb a k c C) (t : Turn S w w') (hn : gw ∉ S) (hc : ∀ p, a = some p → p.block ∉ S) : Acs w' gw off A n Lb a k c C := by
  have e : ∀ o, w'.cell? ⟨gw, o, none⟩ = w.cell? ⟨gw, o, none⟩ := fun o => t.cell (p := ⟨gw, o, none⟩) h.lt hn
  refine ⟨Nat.lt_of_lt_of_le h.lt t.size, h.r.turn' t (fun p hp => ?_), by rw [e]; exact h.nn, fun j v hv => by rw [e]; exact h.bb j v hv, by rw [e]; exact h.cc, by rw [e]; exact h.ss, ?_⟩
  · injection hp with hp; subst hp; exact hn
  · rcases h.cd with h1 | ⟨h1, h2, h3⟩
    · exact .inl h1
    · exact .inr ⟨h1, h2, h3.turn' t hc⟩
theorem FRel.step {A0 A1 L C : List Nat} {w wr w9 : World} {j : Nat} {s s9 : Vst} {A : List Nat} {n : Nat} {Lb C' : List Nat} {bal : Wd4} {v : Value} {gv gA : Nat} (hf : FRel A0 A1 L C w wr j s) (hid : (j = 0 ∧ A = A0 ∧ n = 1 ∧ Lb = List.replicate 32 0 ∧ C' = C) ∨ (j = 1 ∧ A = A1 ∧ n = 0 ∧ Lb = L ∧ C' = [])) (hlen : s.accts.length = j)
    (h9 : s9.accts = s.accts ++ [⟨A, n, bal, v, false, false, false⟩]) (hb : wdOf Lb = bal) (ht : s9.tab = putTab s.tab (homeN A) j) (hav : s9.av.ownBlock = some gA) (t : Turn (gv :: gA :: s.av.ownBlock.toList) wr w9) (hgv : gv < wr.heap.size) (hgv' : gv < w.heap.size) (fa : s.av.ownBlock = some gA ∨ wr.heap.size ≤ gA)
    (cd : CodeIs w9 v C') (nc : ∀ g, v.ownBlock = some g → g ≠ gA ∧ w.heap.size ≤ g) : FRel A0 A1 L C w w9 (j + 1) s9 := by
  rcases hid with ⟨rfl, rfl, rfl, rfl, rfl⟩ | ⟨rfl, rfl, rfl, rfl, rfl⟩
  · rcases hf with ⟨_, h1, h2⟩ | ⟨v, _, _, ⟨h0, _⟩ | ⟨h0, _⟩⟩
    · refine .inr ⟨v, cd, fun g hg => ⟨(nc g hg).2, fun h => ?_⟩, .inl ⟨rfl, ?_, ?_⟩⟩
      · rw [hav] at h
        injection h with h
        exact (nc g hg).1 h.symm
      · rw [h9, h1, ← hb]; rfl
      · rw [ht, h2]; rfl
    · omega
    · omega
  · rcases hf with ⟨h0, _⟩ | ⟨v0, h3, h4, ⟨_, h1, h2⟩ | ⟨h0, _⟩⟩
    · omega
    · have hv0 : ∀ g, v0.ownBlock = some g → g ≠ gA := fun g hg e => by
        subst e
        rcases fa with h | h
        · exact (h4 g hg).2 h
        · have := h3.blk hg; omega
      have hv : v = .slice none 0 0 := by
        rcases cd with h | ⟨g, h, h0, ho⟩
        · exact h.1
        · exact absurd h0 (by simp)
      refine .inr ⟨v0, h3.turn t (fun k hk hm => ?_), fun g hg => ⟨(h4 g hg).1, fun h => ?_⟩, .inr ⟨rfl, ?_, ?_⟩⟩
      · rcases List.mem_cons.1 hm with rfl | hm
        · have := (h4 k hk).1; omega
        · rcases List.mem_cons.1 hm with rfl | hm
          · exact hv0 k hk rfl
          · exact (h4 k hk).2 (by simpa using hm)
      · rw [hav] at h
        injection h with h
        exact hv0 g hg h.symm
      · rw [h9, h1, ← hb, hv]; rfl
      · rw [ht, h2]; rfl
    · omega
theorem stg_acs {w w0 : World} {gw : Nat} {A0 A1 L : List Nat} {a : Option Addr} {k c : Nat} {C : List Nat} {j : Nat} {s : Vst} (h : Stg w gw A0 A1 L a k c) (hk0 : 0 < k) (hk : k ≤ 256) (hL : L.length = 32) (dL : D.Dig L) (dA0 : D.Dig A0) (dA1 : D.Dig A1) (hhome : homeN A0 ≠ homeN A1) (hj : j < 2) (hC : Rd w a k C) (hf : FRel A0 A1 L C w0 w j s) :
    ∃ A n Lb ca ck cc C', Acs w gw (j * 55) A n Lb ca ck cc C' ∧ A.length = 20 ∧ D.Dig A ∧ Lb.length = 32 ∧ D.Dig Lb ∧ n < 18446744073709551616 ∧ s.tab (homeN A) = -1 ∧ (∀ p, ca = some p → a = some p) ∧ Hid ((j = 0 ∧ A = A0 ∧ n = 1 ∧ Lb = List.replicate 32 0 ∧ C' = C) ∨ (j = 1 ∧ A = A1 ∧ n = 0 ∧ Lb = L ∧ C' = [])) := by
  rcases hf with ⟨rfl, h1, h2⟩ | ⟨v, _, _, ⟨rfl, h1, h2⟩ | ⟨rfl, _⟩⟩
  · refine ⟨A0, 1, List.replicate 32 0, a, k, c, C, ⟨h.lt, h.r0, h.n0, h.b0, h.c0, h.s0, .inr ⟨hk0, by omega, hC⟩⟩, h.r0.length, dA0, by simp, D.Dig.replicate _, by omega, by rw [h2], fun p hp => hp, .inl ⟨rfl, rfl, rfl, rfl, rfl⟩⟩
  · refine ⟨A1, 0, L, none, 0, 0, [], ⟨h.lt, h.r1, h.n1, h.b1, h.c1, h.s1, .inl ⟨rfl, rfl, rfl, rfl⟩⟩, h.r1.length, dA1, hL, dL, by omega, ?_, (fun p hp => by cases hp), .inr ⟨rfl, rfl, rfl, rfl, rfl⟩⟩
    rw [h2]
    unfold putTab
    rw [if_neg (Ne.symm hhome)]
  · omega

set_option maxRecDepth 100000 in
set_option maxHeartbeats 8000000 in
theorem fill_two (B : Nat) (w : World) (gv gw cw : Nat) (t0 : Nat → Int) (A0 A1 L : List Nat) (a : Option Addr) (k c : Nat) (C : List Nat) (hv : VOk B w gv (vst0 t0)) (hst : STab w gv) (hB : B ≤ w.heap.size) (h : Stg w gw A0 A1 L a k c) (hk0 : 0 < k) (hk : k ≤ 256) (hL : L.length = 32) (dL : D.Dig L) (hne : L ≠ List.replicate 32 0) (hC : Rd w a k C) (hCg : ∀ p, a = some p → p.block ≠ gv) (hCl : ∀ p, a = some p → p.block < w.heap.size)
    (hlt : Op.bytesLess (strL A0).toList (strL A1).toList = true) (hgw : gw ≠ gv) (dA0 : D.Dig A0) (dA1 : D.Dig A1) (hhome : homeN A0 ≠ homeN A1) :
    Calls Safg.prog 50 #[.pointer (some ⟨gv, 0, none⟩), .slice (some ⟨gw, 0, none⟩) 2 cw] w (FillPost B w gv A0 A1 L C) := by
  have HW := worldOK_two w gw cw A0 A1 L a k c h hk hL dL hne hlt
  go_enter Safg.func50, Safg.ntmps50
  go_upto_region 4 with (go_at_call 155; refine HW.mono ?_; rintro e w1 ⟨rfl, b1⟩)
  have hv1 := hv.below b1
  have hst1 : STab w1 gv := fun j hj => by obtain ⟨z, hz⟩ := hst j hj; exact ⟨z, by rw [b1.cell (cell_lt hz)]; exact hz⟩
  go_loopw [16] (fun i wr => ∃ (j : Nat) (t : Nat → Int), j ≤ 4096 ∧ i = .int .i64 j ∧ VOk B wr gv (vst0 t) ∧ Hid (∀ p, p < j → t p = -1) ∧ STab wr gv ∧ Turn [gv] w1 wr) (fun i _ => 4096 - (intOf i).toNat)
  case atStart => exact ⟨0, t0, by omega, rfl, hv1, fun p hp => absurd hp (by omega), hst1, Turn.refl _ _⟩
  case round =>
    obtain ⟨j, t, hj, rfl, hvr, ht, hsr, tr⟩ := hrel
    rcases Nat.lt_or_ge j 4096 with hlt | hge
    · have q1 : decide ((j : Int) < 4096) = true := decide_eq_true (by omega)
      have q2 : (0 : Int) ≤ j := by omega
      have q3 : (j : Int) < 4096 := by omega
      have c1 := hvr.cT j hlt
      have f1 := hvr.free (2 + j)
      have hv2 := hvr.setTab hlt (-1)
      obtain ⟨z, hz⟩ := hsr j hlt
      have hz' : (wr.setCell ⟨gv, 2 + j, none⟩ (.int .i32 (-1))).cell? ⟨gv, 4098 + j, none⟩ = some (.int .i32 z) := by rw [cell_off (by omega)]; exact hz
      have f2 := hv2.free (4098 + j)
      have hv3 := hv2.setS hlt (.int .i32 (-1))
      have n1 : Only gv wr (wr.setCell ⟨gv, 2 + j, none⟩ (.int .i32 (-1))) := (Only.refl _ _).setCell _ _
      have n2 : Only gv (wr.setCell ⟨gv, 2 + j, none⟩ (.int .i32 (-1))) ((wr.setCell ⟨gv, 2 + j, none⟩ (.int .i32 (-1))).setCell ⟨gv, 4098 + j, none⟩ (.int .i32 (-1))) := (Only.refl _ _).setCell _ _
      clear hv2
      go_wp2
      go_roundw
      case rel =>
        refine ⟨j + 1, putTab t j (-1), by omega, by go_num, hv3, ?_, ?_, tr.trans ((Turn.of_only n1).trans (Turn.of_only n2))⟩
        · intro p hp
          unfold putTab
          split
          · rfl
          · exact ht.out p (by omega)
        · intro p hp
          by_cases e : p = j
          · subst e; exact ⟨-1, World.cell?_setCell_same _ _ _ hz'⟩
          · obtain ⟨y, hy⟩ := hsr p hp
            exact ⟨y, by rw [cell_off (by omega), cell_off (by omega)]; exact hy⟩
      case measure => simp [intOf]; omega
    · obtain rfl : j = 4096 := by omega
      have hv4 : VOk B wr gv (vst0 fun _ => -1) := hvr.tabEq _ (fun p hp => ht.out p hp)
      clear hvr ht hsr
      have T1 : Turn [gv] w wr := (Turn.of_below b1 (Nat.le_refl _) _).trans tr
      clear tr
      go_upto_region 10 with fail
      go_loopw [32] (fun i wq => ∃ (j : Nat) (s : Vst), j ≤ 2 ∧ i = .int .i64 j ∧ VOk B wq gv s ∧ s.accts.length = j ∧ Hid (FRel A0 A1 L C w wq j s) ∧ Turn [gv] w wq ∧ (∀ g, s.av.ownBlock = some g → w.heap.size ≤ g) ∧ s.jv = nilV ∧ s.jn = 0 ∧ s.nm = 0) (fun i _ => 2 - (intOf i).toNat)
      case atStart => exact ⟨0, _, by omega, rfl, hv4, rfl, .inl ⟨rfl, rfl, rfl⟩, T1, fun g hg => by simp [vst0, nilV, Value.ownBlock] at hg, rfl, rfl, rfl⟩
      case round =>
        clear hv4
        obtain ⟨j, s, hj, rfl, hvq, hlen, hf, tq, hav0, hjv0, hjn0, hnm0⟩ := hrel
        rcases Nat.lt_or_ge j 2 with hlt2 | hge
        · obtain ⟨A, n, Lb, ca, ck, cc, C', acs, hA, dA, hLb, dLb, hn, htab, hca, hid⟩ := stg_acs (h.turn tq (by simpa using hgw)) hk0 hk hL dL dA0 dA1 hhome hlt2 (hC.turn' tq (fun p hp hm => by have h1 := hCg p hp; simp at hm; exact h1 hm)) hf.out
          have q1 : decide ((j : Int) < 2) = true := decide_eq_true (by omega)
          have q2 : (0 : Int) ≤ j := by omega
          have q3 : (j : Int) < 2 := by omega
          have HG := acctGets_new (B := B) (gv := gv) (s := s) hA dA htab (by omega)
          rw [hlen] at HG
          have hBq : B ≤ wr.heap.size := Nat.le_trans hB tq.size
          go_upto_region 13 with (first | (refine wpList_load_mid rfl 33 (.tmp 40) rfl gw (j * 55) rfl (cellsL A) _ (range_rd acs.r) Safg.under33 rfl (by rw [cellsL_length, hA]; exact Safg.size33) ?_) | (go_at_call 156; refine (HG _ hvq hBq).mono ?_; rintro e w4 ⟨s1, rfl, hat, hac, htb, hjn, hjs, hjve, hnm, hv4, t4, fa⟩))
          obtain ⟨gA, cap, hav, hBA, hcap, hil, hcell, hfree, hltA, xok⟩ := hv4.spot hat
          have hm : s1.accts.length = j + 1 := by rw [hac]; simp [hlen]
          have HAC : Hid (s1.accts = s.accts ++ [newAc A]) := hac
          have HTB : Hid (s1.tab = putTab s.tab (homeN A) j) := htb
          have HM : Hid (s1.accts.length = j + 1) := hm
          have HLEN : Hid (s.accts.length = j) := hlen
          have gwl := h.lt
          have hv0lt := hv.lt
          have navw : ∀ g, g < w.heap.size → g ∉ s.av.ownBlock.toList := fun g hg hm => by have := hav0 g (by simpa using hm); omega
          have T4 : Turn [gv] w w4 := tq.then_ t4 (fun k hk hlt => by
            rcases List.mem_cons.1 hk with rfl | hk
            · exact List.mem_cons_self
            · exact absurd hk (navw _ hlt))
          have acs4 := acs.turn t4 (by simp only [List.mem_cons, not_or]; exact ⟨hgw, navw _ gwl⟩) (fun p hp => by simp only [List.mem_cons, not_or]; exact ⟨hCg p (hca p hp), navw _ (hCl p (hca p hp))⟩)
          obtain ⟨m, hmm⟩ : ∃ m, s1.accts.length = m := ⟨_, rfl⟩
          have HMM : Hid (s1.accts.length = m) := hmm
          have cA : w4.cell? ⟨gv, 0, none⟩ = some (.slice (some ⟨gA, 0, none⟩) m cap) := by rw [← hmm, ← hav]; exact hv4.cA
          have nAv : gA ≠ gv := by rintro rfl; exact hv4.apA (by rw [hav]; rfl)
          have gA0 : w.heap.size ≤ gA := by
            rcases fa with h1 | h1
            · exact hav0 gA (by rw [← h1, hav]; rfl)
            · have := h1 gA (by rw [hav]; rfl); have := tq.size; omega
          have nAw : gw ≠ gA := by omega
          have fa' : s.av.ownBlock = some gA ∨ wr.heap.size ≤ gA := by
            rcases fa with h1 | h1
            · exact .inl (by rw [← h1, hav]; rfl)
            · exact .inr (h1 gA (by rw [hav]; rfl))
          have TT4 : Turn (gv :: gA :: s.av.ownBlock.toList) wr w4 := t4.mono fun k hk => by rcases List.mem_cons.1 hk with rfl | hk; exact List.mem_cons_self; exact List.mem_cons_of_mem _ (List.mem_cons_of_mem _ hk)
          have inA : ∀ k ∈ [gA], k ∈ (gv :: gA :: s.av.ownBlock.toList) := fun k hk => by obtain rfl : k = gA := (by simpa using hk); simp
          have w34 := t4.size
          have cZ : (w4.cell? ⟨gA, j * 29 + 20, none⟩) = some (.int .u64 ((newAc A).nonce : Int)) := hcell 20 _ (Ac.at_nonce xok.len)
          have cD : w4.drew.cell? ⟨gv, 0, none⟩ = some (.slice (some ⟨gA, 0, none⟩) m cap) := cA
          have nD : w4.drew.cell? ⟨gw, j * 55 + 20, none⟩ = some (.int .u64 (n : Int)) := acs4.nn
          have zD : w4.drew.cell? ⟨gA, j * 29 + 20, none⟩ = some (.int .u64 ((newAc A).nonce : Int)) := cZ
          have fD : w4.drew.frozen? ⟨gA, j * 29 + 20, none⟩ = false := hfree _
          have q4 : (j : Int) < (m : Int) := by omega
          have cE : (w4.drew.setCell ⟨gA, j * 29 + 20, none⟩ (.int .u64 (n : Int))).cell? ⟨gv, 0, none⟩ = some (.slice (some ⟨gA, 0, none⟩) m cap) := by rw [cell_far (Ne.symm nAv)]; exact cD
          have nE : (w4.drew.setCell ⟨gA, j * 29 + 20, none⟩ (.int .u64 (n : Int))).cell? ⟨gw, j * 55 + 20, none⟩ = some (.int .u64 (n : Int)) := by rw [cell_far nAw]; exact nD
          have hv5 : VOk B (w4.setCell ⟨gA, j * 29 + 20, none⟩ (.int .u64 (n : Int))).drew gv { s1 with accts := s1.accts.set j { newAc A with nonce := n } } := (hv4.same (Same.drew w4)).setAc (i := j) (x := newAc A) (y := { newAc A with nonce := n }) hat ⟨xok.len, xok.dig, hn, xok.bal, xok.code⟩ (f := 20) (news := [.int .u64 (n : Int)]) (by show 20 + 1 ≤ 29; omega) (Ac.set_nonce xok.len n) hav
          have o5 : Only gA w4.drew (w4.setCell ⟨gA, j * 29 + 20, none⟩ (.int .u64 (n : Int))).drew := (Only.refl gA w4.drew).setCell (j * 29 + 20) _
          have acs5 := (acs4.turn (Turn.drew [] w4) (by simp) (by simp)).turn (Turn.of_only o5) (by simpa using nAw) (fun p hp hm => by have h1 := hCl p (hca p hp); have h2 : p.block = gA := (by simpa using hm); omega)
          have T5 : Turn [gv] w (w4.setCell ⟨gA, j * 29 + 20, none⟩ (.int .u64 (n : Int))).drew := (T4.trans (Turn.drew _ w4)).then_ (Turn.of_only o5) (fun k hk hl => by obtain rfl : k = gA := (by simpa using hk); omega)
          have TT5 : Turn (gv :: gA :: s.av.ownBlock.toList) wr (w4.setCell ⟨gA, j * 29 + 20, none⟩ (.int .u64 (n : Int))).drew := (TT4.trans (Turn.drew _ w4)).trans ((Turn.of_only o5).mono inA)
          generalize hxn : (newAc A).nonce = zn at zD cZ
          clear hac htb hcell hfree HG hxn hm hmm hlen
          refine wp_region_held_drew (S := fun w' => w'.cell? ⟨gv, 0, none⟩ = some (.slice (some ⟨gA, 0, none⟩) m cap) ∧ w'.cell? ⟨gw, j * 55 + 20, none⟩ = some (.int .u64 (n : Int))) (by kernel_rfl) ⟨cD, nD⟩ (fun hHeld => ?_)
          refine wpAnyH_take' (i := 0) (d := 45) rfl rfl (by kernel_rfl) (by kernel_rfl) (by kernel_rfl) (fun _ _ _ h => h) (Or.inl ⟨by rfl, fun w hw => by go_simp; try rfl⟩) hHeld ?_
          try simp only [Act.put, List.setIfInBounds_toArray, List.set_cons_zero, List.set_cons_succ]
          refine wpAnyH_take' (i := 1) (d := 46) rfl rfl (by kernel_rfl) (by kernel_rfl) (by kernel_rfl) (fun _ _ _ h => h) (Or.inl ⟨by rfl, fun w hw => by go_simp; try rfl⟩) hHeld ?_
          try simp only [Act.put, List.setIfInBounds_toArray, List.set_cons_zero, List.set_cons_succ]
          refine wpAnyH_take' (i := 2) (d := 47) rfl rfl (by kernel_rfl) (by kernel_rfl) (by kernel_rfl) (fun _ _ _ h => h) (Or.inl ⟨by rfl, fun w hw => by go_simp; try rfl⟩) hHeld ?_
          try simp only [Act.put, List.setIfInBounds_toArray, List.set_cons_zero, List.set_cons_succ]
          refine wpAnyH_take' (i := 3) (d := 48) rfl rfl (by kernel_rfl) (by kernel_rfl) (by kernel_rfl) (fun _ _ _ h => h) (Or.inl ⟨by rfl, fun w hw => by obtain ⟨h1, h2⟩ := hw; go_simp; try rfl⟩) hHeld ?_
          try simp only [Act.put, List.setIfInBounds_toArray, List.set_cons_zero, List.set_cons_succ]
          refine wpAnyH_take' (i := 4) (d := 49) rfl rfl (by kernel_rfl) (by kernel_rfl) (by kernel_rfl) (fun _ _ _ h => h) (Or.inl ⟨by rfl, fun w hw => by go_simp; try rfl⟩) hHeld ?_
          try simp only [Act.put, List.setIfInBounds_toArray, List.set_cons_zero, List.set_cons_succ]
          refine wpAnyH_take' (i := 5) (d := 50) rfl rfl (by kernel_rfl) (by kernel_rfl) (by kernel_rfl) (fun _ _ _ h => h) (Or.inl ⟨by rfl, fun w hw => by go_simp; try rfl⟩) hHeld ?_
          try simp only [Act.put, List.setIfInBounds_toArray, List.set_cons_zero, List.set_cons_succ]
          refine wpAnyH_take' (i := 6) (d := 51) rfl rfl (by kernel_rfl) (by kernel_rfl) (by kernel_rfl) (fun _ _ _ h => h) (Or.inl ⟨by rfl, fun w hw => by go_simp; try rfl⟩) hHeld ?_
          try simp only [Act.put, List.setIfInBounds_toArray, List.set_cons_zero, List.set_cons_succ]
          refine wpAnyH_take' (i := 7) (d := 52) rfl rfl (by kernel_rfl) (by kernel_rfl) (by kernel_rfl) (fun _ _ _ h => h) (Or.inl ⟨by rfl, fun w hw => by go_simp; try rfl⟩) hHeld ?_
          try simp only [Act.put, List.setIfInBounds_toArray, List.set_cons_zero, List.set_cons_succ]
          refine wpAnyH_take' (i := 8) (d := 53) rfl rfl (by kernel_rfl) (by kernel_rfl) (by kernel_rfl) (fun _ _ _ h => h) (Or.inl ⟨by rfl, fun w hw => by go_simp; try rfl⟩) hHeld ?_
          try simp only [Act.put, List.setIfInBounds_toArray, List.set_cons_zero, List.set_cons_succ]
          refine wpAnyH_take' (i := 9) (d := 54) rfl rfl (by kernel_rfl) (by kernel_rfl) (by kernel_rfl) (fun _ _ _ h => h) (Or.inl ⟨by rfl, fun w hw => by obtain ⟨h1, h2⟩ := hw; go_simp; try rfl⟩) hHeld ?_
          try simp only [Act.put, List.setIfInBounds_toArray, List.set_cons_zero, List.set_cons_succ]
          refine wpAnyH_take' (i := 10) (d := 55) rfl rfl (by kernel_rfl) (by kernel_rfl) (by kernel_rfl) (fun _ _ _ h => h) (Or.inl ⟨by rfl, fun w hw => by go_simp; try rfl⟩) hHeld ?_
          try simp only [Act.put, List.setIfInBounds_toArray, List.set_cons_zero, List.set_cons_succ]
          refine wpAnyH_take' (i := 11) (d := 56) rfl rfl (by kernel_rfl) (by kernel_rfl) (by kernel_rfl) (fun _ _ _ h => h) (Or.inl ⟨by rfl, fun w hw => by go_simp; try rfl⟩) hHeld ?_
          try simp only [Act.put, List.setIfInBounds_toArray, List.set_cons_zero, List.set_cons_succ]
          refine wpAnyH_oneK 12 (by kernel_rfl) rfl rfl ?_
          intro K hK
          go_simp
          refine hK.out _ _ ⟨cE, nE⟩ ?_
          clear hK K
          try simp only [Act.put, List.setIfInBounds_toArray, List.set_cons_zero, List.set_cons_succ]
          refine wpAnyH_done (by kernel_rfl) ?_ _
          clear hHeld cE nE cD nD zD fD cA cZ
          have ex5 := set_last (l := s.accts) (j := j) HLEN.out (x := newAc A) (y := { newAc A with nonce := n })
          rw [← HAC.out] at ex5
          obtain ⟨x5, hx5⟩ : ∃ x : Ac, ({ newAc A with nonce := n } : Ac) = x := ⟨_, rfl⟩
          have HX5 : Hid (({ newAc A with nonce := n } : Ac) = x5) := hx5
          rw [hx5] at hv5 ex5
          obtain ⟨s5, hs5⟩ : ∃ t : Vst, ({ s1 with accts := s1.accts.set j x5 } : Vst) = t := ⟨_, rfl⟩
          have a5 : s5.accts = s.accts ++ [x5] := by rw [← hs5]; exact ex5
          have b5 : s5.tab = putTab s.tab (homeN A) j ∧ s5.jn = 0 ∧ s5.nm = 0 ∧ s5.jv = nilV ∧ s5.av = .slice (some ⟨gA, 0, none⟩) m cap := by
            rw [← hs5]
            exact ⟨HTB.out, hjn.trans hjn0, hnm.trans hnm0, hjve.trans hjv0, by rw [← HMM.out]; exact hav⟩
          have hat5 : s5.accts[j]? = some x5 := by rw [a5, ← HLEN.out]; simp
          have xok5 := hv5.ok x5 (List.mem_of_getElem? (by rw [hs5]; exact hat5))
          rw [hs5] at hv5
          have A5 : Hid (s5.accts = s.accts ++ [x5]) := a5
          have B5 : Hid (s5.tab = putTab s.tab (homeN A) j ∧ s5.jn = 0 ∧ s5.nm = 0 ∧ s5.jv = nilV ∧ s5.av = .slice (some ⟨gA, 0, none⟩) m cap) := b5
          have hmm5 : s5.accts.length = m := by rw [a5, ← HMM.out, HAC.out]; simp
          have hav5 : s5.av = .slice (some ⟨gA, 0, none⟩) s5.accts.length cap := by rw [hmm5]; exact b5.2.2.2.2
          have c5 : ∃ b : Wd4, (w4.setCell ⟨gA, j * 29 + 20, none⟩ (.int .u64 (n : Int))).drew.rangeAt gA (j * 29 + 21) b.cells := ⟨x5.bal, fun i v hvi => by
            obtain ⟨gA', cap', hav', _, _, _, hcell', _⟩ := hv5.spot hat5
            obtain rfl : gA = gA' := by rw [hav5] at hav'; exact (by simpa using hav' : gA = gA' ∧ cap = cap').1
            have h1 := hcell' (21 + i) v (by rw [Ac.at_bal xok5.len (List.getElem?_eq_some_iff.1 hvi).1]; exact hvi)
            rwa [← Nat.add_assoc] at h1⟩
          have fr5 : ∀ o, (w4.setCell ⟨gA, j * 29 + 20, none⟩ (.int .u64 (n : Int))).drew.frozen? ⟨gA, o, none⟩ = false := by
            obtain ⟨gA', cap', hav', _, _, _, _, hfree', _⟩ := hv5.spot hat5
            obtain rfl : gA = gA' := by rw [hav5] at hav'; exact (by simpa using hav' : gA = gA' ∧ cap = cap').1
            exact hfree'
          obtain ⟨b5, c5⟩ := c5
          have w45 := o5.size
          have cA5 : (w4.setCell ⟨gA, j * 29 + 20, none⟩ (.int .u64 (n : Int))).drew.cell? ⟨gv, 0, none⟩ = some (.slice (some ⟨gA, 0, none⟩) m cap) := by rw [← hmm5, ← hav5]; exact hv5.cA
          clear hs5 hx5 ex5 a5 hat hav hv4 acs4 T4 t4 o5 hv
          generalize (w4.setCell ⟨gA, j * 29 + 20, none⟩ (.int .u64 (n : Int))).drew = w5 at *
          go_upto_region 14 with fail
          have SD : w5.drew.cell? ⟨gv, 0, none⟩ = some (.slice (some ⟨gA, 0, none⟩) m cap) ∧ w5.drew.rangeAt gw (j * 55 + 21) (cellsL Lb) := ⟨cA5, acs5.bb⟩
          refine wp_region_held_drew (S := fun w' => w'.cell? ⟨gv, 0, none⟩ = some (.slice (some ⟨gA, 0, none⟩) m cap) ∧ w'.rangeAt gw (j * 55 + 21) (cellsL Lb)) (by kernel_rfl) SD (fun hHeld => ?_)
          refine wpAnyH_take' (i := 0) (d := 57) rfl rfl (by kernel_rfl) (by kernel_rfl) (by kernel_rfl) (fun _ _ _ h => h) (Or.inl ⟨by rfl, fun w hw => by go_simp; try rfl⟩) hHeld ?_
          try simp only [Act.put, List.setIfInBounds_toArray, List.set_cons_zero, List.set_cons_succ]
          refine wpAnyH_take' (i := 1) (d := 58) rfl rfl (by kernel_rfl) (by kernel_rfl) (by kernel_rfl) (fun _ _ _ h => h) (Or.inl ⟨by rfl, fun w hw => by go_simp; try rfl⟩) hHeld ?_
          try simp only [Act.put, List.setIfInBounds_toArray, List.set_cons_zero, List.set_cons_succ]
          refine wpAnyH_take' (i := 2) (d := 59) rfl rfl (by kernel_rfl) (by kernel_rfl) (by kernel_rfl) (fun _ _ _ h => h) (Or.inl ⟨by rfl, fun w hw => by go_simp; try rfl⟩) hHeld ?_
          try simp only [Act.put, List.setIfInBounds_toArray, List.set_cons_zero, List.set_cons_succ]
          refine wpAnyH_take' (i := 3) (d := 60) rfl rfl (by kernel_rfl) (by kernel_rfl) (by kernel_rfl) (fun _ _ _ h => h) (Or.inl ⟨by rfl, fun w hw => by obtain ⟨h1, h2⟩ := hw; go_simp; try rfl⟩) hHeld ?_
          try simp only [Act.put, List.setIfInBounds_toArray, List.set_cons_zero, List.set_cons_succ]
          refine wpAnyH_take' (i := 4) (d := 61) rfl rfl (by kernel_rfl) (by kernel_rfl) (by kernel_rfl) (fun _ _ _ h => h) (Or.inl ⟨by rfl, fun w hw => by go_simp; try rfl⟩) hHeld ?_
          try simp only [Act.put, List.setIfInBounds_toArray, List.set_cons_zero, List.set_cons_succ]
          refine wpAnyH_take' (i := 5) (d := 62) rfl rfl (by kernel_rfl) (by kernel_rfl) (by kernel_rfl) (fun _ _ _ h => h) (Or.inl ⟨by rfl, fun w hw => by go_simp; try rfl⟩) hHeld ?_
          try simp only [Act.put, List.setIfInBounds_toArray, List.set_cons_zero, List.set_cons_succ]
          refine wpAnyH_take' (i := 6) (d := 63) rfl rfl (by kernel_rfl) (by kernel_rfl) (by kernel_rfl) (fun _ _ _ h => h) (Or.inl ⟨by rfl, fun w hw => by go_simp; try rfl⟩) hHeld ?_
          try simp only [Act.put, List.setIfInBounds_toArray, List.set_cons_zero, List.set_cons_succ]
          refine wpAnyH_take' (i := 7) (d := 64) rfl rfl (by kernel_rfl) (by kernel_rfl) (by kernel_rfl) (fun _ _ _ h => h) (Or.inl ⟨by rfl, fun w hw => by go_simp; try rfl⟩) hHeld ?_
          try simp only [Act.put, List.setIfInBounds_toArray, List.set_cons_zero, List.set_cons_succ]
          refine wpAnyH_take' (i := 8) (d := 65) rfl rfl (by kernel_rfl) (by kernel_rfl) (by kernel_rfl) (fun _ _ _ h => h) (Or.inl ⟨by rfl, fun w hw => by go_simp; try rfl⟩) hHeld ?_
          try simp only [Act.put, List.setIfInBounds_toArray, List.set_cons_zero, List.set_cons_succ]
          refine wpAnyH_take' (i := 9) (d := 66) rfl rfl (by kernel_rfl) (by kernel_rfl) (by kernel_rfl) (fun _ _ _ h => h) (yieldsIf_load_mid (by rfl) 51 _ rfl gw (j * 55 + 21) rfl (cellsL Lb) _ (fun w hw => hw.2) Safg.under51 rfl (by rw [cellsL_length, hLb]; exact Safg.size51)) hHeld ?_
          try simp only [Act.put, List.setIfInBounds_toArray, List.set_cons_zero, List.set_cons_succ]
          refine wpAnyH_one 10 (by kernel_rfl) rfl rfl ?_
          refine wp_callR Safg.func63 (by kernel_rfl) (by kernel_rfl) (fromBytes_any w5.drew Lb hLb dLb) rfl rfl ?_
          rintro e w6 ⟨rfl, b6⟩
          have S6 := keepR2 hHeld b6
          refine ⟨_, rfl, S6, ?_⟩
          refine wpAnyH_take' (i := 11) (d := 68) rfl rfl (by kernel_rfl) (by kernel_rfl) (by kernel_rfl) (fun _ _ _ h => h) (Or.inl ⟨by rfl, fun w hw => by go_simp; try rfl⟩) S6 ?_
          try simp only [Act.put, List.setIfInBounds_toArray, List.set_cons_zero, List.set_cons_succ]
          refine wpAnyH_take' (i := 12) (d := 69) rfl rfl (by kernel_rfl) (by kernel_rfl) (by kernel_rfl) (fun _ _ _ h => h) (Or.inl ⟨by rfl, fun w hw => by go_simp; try rfl⟩) S6 ?_
          try simp only [Act.put, List.setIfInBounds_toArray, List.set_cons_zero, List.set_cons_succ]
          have hv6 := (hv5.same (Same.drew w5)).below b6
          have acs6 := (acs5.turn (Turn.drew [] w5) (by simp) (by simp)).turn (Turn.of_below b6 (Nat.le_refl _) []) (by simp) (by simp)
          have T6 : Turn [gv] w w6 := (T5.trans (Turn.drew _ w5)).trans (Turn.of_below b6 (Nat.le_refl _) _)
          have lA6 : gA < w5.drew.heap.size := (hv5.same (Same.drew w5)).vA.blk (by rw [hav5]; rfl)
          have r6 : w6.rangeAt gA (j * 29 + 21) b5.cells := fun i v hvi => by rw [b6.cell (p := ⟨gA, j * 29 + 21 + i, none⟩) lA6]; exact c5 i v hvi
          have f6 : ∀ o, w6.frozen? ⟨gA, o, none⟩ = false := fun o => by rw [b6.frozen (p := ⟨gA, o, none⟩) lA6]; exact fr5 o
          have ok6 : (wdOf Lb).Ok := wdOf_ok dLb
          obtain ⟨bal, hbal⟩ : ∃ b, wdOf Lb = b := ⟨_, rfl⟩
          have HBL : Hid (wdOf Lb = bal) := hbal
          rw [hbal] at ok6
          simp only [hbal]
          clear hbal
          refine wpAnyH_one 13 (by kernel_rfl) rfl rfl ?_
          refine wp_store_mid 65 _ _ rfl gA (j * 29 + 21) bal.cells.toArray rfl rfl (fun i hi => ⟨by have h4 : i < b5.cells.length := hi; rw [r6 i _ (List.getElem?_eq_getElem h4)]; rfl, f6 _⟩) Safg.size65 (all_oneCell_toArray (Wd4.one _)) ?_
          have o7 : Only gA w6 (w6.setCells gA (j * 29 + 21) bal.cells) := Only.setCells _ _ (Only.refl _ _)
          have hv7 := hv6.setAc (i := j) (x := x5) (y := { x5 with bal := bal }) hat5 ⟨xok5.len, xok5.dig, xok5.nonce, ok6, xok5.code⟩ (f := 21) (news := bal.cells) (by show 21 + 4 ≤ 29; omega) (Ac.set_bal xok5.len bal) hav5
          have acs7 := acs6.turn (Turn.of_only o7) (by simpa using nAw) (fun p hp hm => by have h1 := hCl p (hca p hp); have h2 : p.block = gA := (by simpa using hm); omega)
          have T7 : Turn [gv] w (w6.setCells gA (j * 29 + 21) bal.cells) := T6.then_ (Turn.of_only o7) (fun k hk hl => by obtain rfl : k = gA := (by simpa using hk); omega)
          have cA7 : (w6.setCells gA (j * 29 + 21) bal.cells).cell? ⟨gv, 0, none⟩ = some (.slice (some ⟨gA, 0, none⟩) m cap) := by rw [o7.cell (p := ⟨gv, 0, none⟩) (Ne.symm nAv)]; exact S6.1
          have TT7 : Turn (gv :: gA :: s.av.ownBlock.toList) wr (w6.setCells gA (j * 29 + 21) bal.cells) := ((TT5.trans (Turn.drew _ w5)).trans (Turn.of_below b6 (Nat.le_refl _) _)).trans ((Turn.of_only o7).mono inA)
          refine ⟨⟨cA7, acs7.bb⟩, ?_⟩
          try simp only [Act.put, List.setIfInBounds_toArray, List.set_cons_zero, List.set_cons_succ]
          refine wpAnyH_done (by kernel_rfl) ?_ _
          clear hHeld S6 r6 f6 lA6 c5 fr5 cA5 acs5 T5 b6 hv5 SD hv6 acs6 T6
          have ex7 := set_last (l := s.accts) (j := j) HLEN.out (x := x5) (y := { x5 with bal := bal })
          rw [← A5.out] at ex7
          obtain ⟨x7, hx7⟩ : ∃ x : Ac, ({ x5 with bal := bal } : Ac) = x := ⟨_, rfl⟩
          have HX7 : Hid (({ x5 with bal := bal } : Ac) = x7) := hx7
          rw [hx7] at hv7 ex7
          obtain ⟨s7, hs7⟩ : ∃ t : Vst, ({ s5 with accts := s5.accts.set j x7 } : Vst) = t := ⟨_, rfl⟩
          have a7 : s7.accts = s.accts ++ [x7] := by rw [← hs7]; exact ex7
          have b7 : s7.tab = putTab s.tab (homeN A) j ∧ s7.jn = 0 ∧ s7.nm = 0 ∧ s7.jv = nilV ∧ s7.av = .slice (some ⟨gA, 0, none⟩) m cap := by
            rw [← hs7]
            exact B5.out
          have hat7 : s7.accts[j]? = some x7 := by rw [a7, ← HLEN.out]; simp
          have xok7 := hv7.ok x7 (List.mem_of_getElem? (by rw [hs7]; exact hat7))
          rw [hs7] at hv7
          have A7 : Hid (s7.accts = s.accts ++ [x7]) := a7
          have B7 : Hid (s7.tab = putTab s.tab (homeN A) j ∧ s7.jn = 0 ∧ s7.nm = 0 ∧ s7.jv = nilV ∧ s7.av = .slice (some ⟨gA, 0, none⟩) m cap) := b7
          have hmm7 : s7.accts.length = m := by rw [a7, ← HMM.out, HAC.out]; simp
          have hav7 : s7.av = .slice (some ⟨gA, 0, none⟩) s7.accts.length cap := by rw [hmm7]; exact b7.2.2.2.2
          obtain ⟨gA', cap', hav', _, _, _, hcell7, fr7, lA7, _⟩ := hv7.spot hat7
          obtain rfl : gA = gA' := by rw [hav7] at hav'; exact (by simpa using hav' : gA = gA' ∧ cap = cap').1
          have c7 := hcell7 25 _ (Ac.at_code xok7.len)
          have w67 := o7.size
          clear hs7 hx7 ex7 a7 o7 hcell7 hav5 hat5 xok5 hmm5 A5 B5 b7 hav'
          try simp only [List.toList_toArray]
          generalize w6.setCells gA (j * 29 + 21) bal.cells = w7 at *
          go_upto_region 15 with fail
          have SE : w7.drew.cell? ⟨gv, 0, none⟩ = some (.slice (some ⟨gA, 0, none⟩) m cap) ∧ w7.drew.cell? ⟨gw, j * 55 + 53, none⟩ = some (.slice ca ck cc) := ⟨cA7, acs7.cc⟩
          refine wp_region_held_drew (S := fun w' => w'.cell? ⟨gv, 0, none⟩ = some (.slice (some ⟨gA, 0, none⟩) m cap) ∧ w'.cell? ⟨gw, j * 55 + 53, none⟩ = some (.slice ca ck cc)) (by kernel_rfl) SE (fun hHeld => ?_)
          refine wpAnyH_take' (i := 0) (d := 70) rfl rfl (by kernel_rfl) (by kernel_rfl) (by kernel_rfl) (fun _ _ _ h => h) (Or.inl ⟨by rfl, fun w hw => by go_simp; try rfl⟩) hHeld ?_
          try simp only [Act.put, List.setIfInBounds_toArray, List.set_cons_zero, List.set_cons_succ]
          refine wpAnyH_take' (i := 1) (d := 71) rfl rfl (by kernel_rfl) (by kernel_rfl) (by kernel_rfl) (fun _ _ _ h => h) (Or.inl ⟨by rfl, fun w hw => by go_simp; try rfl⟩) hHeld ?_
          try simp only [Act.put, List.setIfInBounds_toArray, List.set_cons_zero, List.set_cons_succ]
          refine wpAnyH_take' (i := 2) (d := 72) rfl rfl (by kernel_rfl) (by kernel_rfl) (by kernel_rfl) (fun _ _ _ h => h) (Or.inl ⟨by rfl, fun w hw => by go_simp; try rfl⟩) hHeld ?_
          try simp only [Act.put, List.setIfInBounds_toArray, List.set_cons_zero, List.set_cons_succ]
          refine wpAnyH_take' (i := 3) (d := 73) rfl rfl (by kernel_rfl) (by kernel_rfl) (by kernel_rfl) (fun _ _ _ h => h) (Or.inl ⟨by rfl, fun w hw => by obtain ⟨h1, h2⟩ := hw; go_simp; try rfl⟩) hHeld ?_
          try simp only [Act.put, List.setIfInBounds_toArray, List.set_cons_zero, List.set_cons_succ]
          refine wpAnyH_take' (i := 4) (d := 74) rfl rfl (by kernel_rfl) (by kernel_rfl) (by kernel_rfl) (fun _ _ _ h => h) (Or.inl ⟨by rfl, fun w hw => by go_simp; try rfl⟩) hHeld ?_
          try simp only [Act.put, List.setIfInBounds_toArray, List.set_cons_zero, List.set_cons_succ]
          refine wpAnyH_take' (i := 5) (d := 75) rfl rfl (by kernel_rfl) (by kernel_rfl) (by kernel_rfl) (fun _ _ _ h => h) (Or.inl ⟨by rfl, fun w hw => by go_simp; try rfl⟩) hHeld ?_
          try simp only [Act.put, List.setIfInBounds_toArray, List.set_cons_zero, List.set_cons_succ]
          refine wpAnyH_take' (i := 6) (d := 76) rfl rfl (by kernel_rfl) (by kernel_rfl) (by kernel_rfl) (fun _ _ _ h => h) (Or.inl ⟨by rfl, fun w hw => by go_simp; try rfl⟩) hHeld ?_
          try simp only [Act.put, List.setIfInBounds_toArray, List.set_cons_zero, List.set_cons_succ]
          refine wpAnyH_take' (i := 7) (d := 77) rfl rfl (by kernel_rfl) (by kernel_rfl) (by kernel_rfl) (fun _ _ _ h => h) (Or.inl ⟨by rfl, fun w hw => by go_simp; try rfl⟩) hHeld ?_
          try simp only [Act.put, List.setIfInBounds_toArray, List.set_cons_zero, List.set_cons_succ]
          refine wpAnyH_take' (i := 8) (d := 78) rfl rfl (by kernel_rfl) (by kernel_rfl) (by kernel_rfl) (fun _ _ _ h => h) (Or.inl ⟨by rfl, fun w hw => by go_simp; try rfl⟩) hHeld ?_
          try simp only [Act.put, List.setIfInBounds_toArray, List.set_cons_zero, List.set_cons_succ]
          refine wpAnyH_take' (i := 9) (d := 79) rfl rfl (by kernel_rfl) (by kernel_rfl) (by kernel_rfl) (fun _ _ _ h => h) (Or.inl ⟨by rfl, fun w hw => by obtain ⟨h1, h2⟩ := hw; go_simp; try rfl⟩) hHeld ?_
          try simp only [Act.put, List.setIfInBounds_toArray, List.set_cons_zero, List.set_cons_succ]
          refine wpAnyH_one 10 (by kernel_rfl) rfl rfl ?_
          refine wp_callR Safg.func157 (by kernel_rfl) (by kernel_rfl) (vcopied_acs w7.drew ca ck cc C' (by rcases acs7.cd with h1 | ⟨h1, h2, h3⟩; exact .inl h1; exact .inr ⟨h1, h2, h3.turn' (Turn.drew [] w7) (by simp)⟩)) rfl rfl ?_
          rintro e w8 ⟨va, vk, vp, rfl, fr8, cd8, b8⟩
          have S8 := keepS2' hHeld b8
          refine ⟨_, rfl, S8, ?_⟩
          refine wpAnyH_take' (i := 11) (d := 81) rfl rfl (by kernel_rfl) (by kernel_rfl) (by kernel_rfl) (fun _ _ _ h => h) (Or.inl ⟨by rfl, fun w hw => by go_simp; try rfl⟩) S8 ?_
          try simp only [Act.put, List.setIfInBounds_toArray, List.set_cons_zero, List.set_cons_succ]
          refine wpAnyH_take' (i := 12) (d := 82) rfl rfl (by kernel_rfl) (by kernel_rfl) (by kernel_rfl) (fun _ _ _ h => h) (Or.inl ⟨by rfl, fun w hw => by go_simp; try rfl⟩) S8 ?_
          try simp only [Act.put, List.setIfInBounds_toArray, List.set_cons_zero, List.set_cons_succ]
          have hv8 := (hv7.same (Same.drew w7)).below b8
          have acs8 := (acs7.turn (Turn.drew [] w7) (by simp) (by simp)).turn (Turn.of_below b8 (Nat.le_refl _) []) (by simp) (by simp)
          have T8 : Turn [gv] w w8 := (T7.trans (Turn.drew _ w7)).trans (Turn.of_below b8 (Nat.le_refl _) _)
          have lA8 : gA < w7.drew.heap.size := lA7
          have z8 : w8.cell? ⟨gA, j * 29 + 25, none⟩ = some x7.code := by rw [b8.cell (p := ⟨gA, j * 29 + 25, none⟩) lA8]; exact c7
          have f8 : w8.frozen? ⟨gA, j * 29 + 25, none⟩ = false := by rw [b8.frozen (p := ⟨gA, j * 29 + 25, none⟩) lA8]; exact fr7 _
          have o9 : Only gA w8 (w8.setCell ⟨gA, j * 29 + 25, none⟩ (.slice va vk vp)) := (Only.refl _ _).setCell _ _
          have hv9 : VOk B (w8.setCell ⟨gA, j * 29 + 25, none⟩ (.slice va vk vp)) gv { s7 with accts := s7.accts.set j { x7 with code := (.slice va vk vp) } } := hv8.setAc (i := j) (x := x7) (y := { x7 with code := (.slice va vk vp) }) hat7 ⟨xok7.len, xok7.dig, xok7.nonce, xok7.bal, rfl⟩ (f := 25) (news := [(.slice va vk vp)]) (by show 25 + 1 ≤ 29; omega) (Ac.set_code xok7.len (.slice va vk vp)) hav7
          have acs9 := acs8.turn (Turn.of_only o9) (by simpa using nAw) (fun p hp hm => by have h1 := hCl p (hca p hp); have h2 : p.block = gA := (by simpa using hm); omega)
          have T9 : Turn [gv] w (w8.setCell ⟨gA, j * 29 + 25, none⟩ (.slice va vk vp)) := T8.then_ (Turn.of_only o9) (fun k hk hl => by obtain rfl : k = gA := (by simpa using hk); omega)
          have cA9 : (w8.setCell ⟨gA, j * 29 + 25, none⟩ (.slice va vk vp)).cell? ⟨gv, 0, none⟩ = some (.slice (some ⟨gA, 0, none⟩) m cap) := by rw [o9.cell (p := ⟨gv, 0, none⟩) (Ne.symm nAv)]; exact S8.1
          have ncd : ∀ g, (Value.slice va vk vp).ownBlock = some g → g ≠ gA ∧ w.heap.size ≤ g := fun g hg => by
            have h1 := fr8 g hg
            have h2 := T7.size
            have h3 : w7.heap.size = w7.drew.heap.size := rfl
            exact ⟨by omega, by omega⟩
          have cd9 : CodeIs (w8.setCell ⟨gA, j * 29 + 25, none⟩ (.slice va vk vp)) (.slice va vk vp) C' := cd8.only o9 (fun g hg => (ncd g hg).1)
          have TT9 : Turn (gv :: gA :: s.av.ownBlock.toList) wr (w8.setCell ⟨gA, j * 29 + 25, none⟩ (.slice va vk vp)) := ((TT7.trans (Turn.drew _ w7)).trans (Turn.of_below b8 (Nat.le_refl _) _)).trans ((Turn.of_only o9).mono inA)
          have c9 := acs9.cc
          have s9 := acs9.ss
          refine wpAnyH_oneK 13 (by kernel_rfl) rfl rfl ?_
          intro K hK
          go_simp
          refine hK.out _ _ ⟨cA9, c9⟩ ?_
          clear hK K
          try simp only [Act.put, List.setIfInBounds_toArray, List.set_cons_zero, List.set_cons_succ]
          refine wpAnyH_done (by kernel_rfl) ?_ _
          clear hHeld S8 z8 f8 lA8 c7 fr7 cA7 acs7 T7 b8 hv7 SE hv8 acs8 T8 cd8
          have ex9 := set_last (l := s.accts) (j := j) HLEN.out (x := x7) (y := { x7 with code := (.slice va vk vp) })
          rw [← A7.out] at ex9
          have XE : Hid (({ x7 with code := (.slice va vk vp) } : Ac) = ⟨A, n, bal, (.slice va vk vp), false, false, false⟩) := by
            show _ = _
            rw [← HX7.out, ← HX5.out]
            rfl
          generalize w8.setCell ⟨gA, j * 29 + 25, none⟩ (.slice va vk vp) = w9 at *
          go_upto_region 17 with fail
          go_loopw [89] (fun i wq => i = .int .i64 0 ∧ wq = w9) (fun _ _ => 0)
          case atStart => exact ⟨rfl, rfl⟩
          case round =>
            obtain ⟨rfl, rfl⟩ := hrel
            go_wp2
            refine ⟨?_, ?measure⟩
            refine ⟨_, _, _, _, _, _, _, _, _, _, _, _, _, _, _, _, _, _, _, _, _, _, _, _, _, _, _, _, _, _, _, _, _, _, _, _, _, _, _, _, _, _, _, _, _, _, _, _, _, _, _, _, _, _, _, _, _, _, _, _, _, _, _, _, _, _, _, _, _, _, _, _, _, _, _, _, _, _, _, _, _, _, _, _, _, _, _, _, _, _, _, _, _, _, _, _, _, _, _, _, _, _, _, ?rel, rfl⟩
            case rel =>
              refine ⟨j + 1, _, by omega, by go_num, hv9, ?_, ?_, T9, ?_, ?_, ?_, ?_⟩
              · show (s7.accts.set j _).length = _
                rw [ex9]; simp [HLEN.out]
              · exact FRel.step hf.out hid.out HLEN.out (by show s7.accts.set j _ = _; rw [ex9, XE.out]) (HBL.out) B7.out.1 (gA := gA) (by show s7.av.ownBlock = _; rw [B7.out.2.2.2.2]; rfl) TT9 (Nat.lt_of_lt_of_le hv0lt tq.size) hv0lt fa' cd9 ncd
              · intro g hg
                have h1 : s7.av.ownBlock = some g := hg
                rw [B7.out.2.2.2.2] at h1
                obtain rfl : gA = g := by simpa [Value.ownBlock] using h1
                exact gA0
              · exact B7.out.2.2.2.1
              · exact B7.out.2.1
              · exact B7.out.2.2.1
            case measure => simp [intOf]; omega
        · obtain rfl : j = 2 := by omega
          have q1 : decide (((2 : Nat) : Int) < 2) = false := by decide
          go_wp2
          go_ret
          rcases hf.out with ⟨h0, _⟩ | ⟨v, h1, h2, ⟨h0, _⟩ | ⟨_, h3, h4⟩⟩
          · omega
          · omega
          · exact ⟨s, v, rfl, hvq, h3, h4, hjn0, hnm0, h1, tq, fun g hg => (h2 g hg).1, hav0, hjv0⟩
end Go.Proofs.YgcsafGreat
