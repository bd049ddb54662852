/-
  'obs.WorldOK' (155) of the stage.
-/
import Derived.Test.YgcsafGreatAcOK
namespace Go.Proofs.YgcsafGreat
open Go.RowKit
set_option linter.unusedVariables false
set_option linter.unusedSimpArgs false

/-- A world of two accounts: one with a nonce and code, one with a balance. -/
structure Stg (w : World) (gw : Nat) (A0 A1 L : List Nat) (a : Option Addr) (k c : Nat) : Prop where
  lt : gw < w.heap.size
  r0 : Rd w (some ⟨gw, 0, none⟩) 20 A0
  n0 : w.cell? ⟨gw, 20, none⟩ = some (.int .u64 1)
  b0 : w.rangeAt gw 21 (cellsL (List.replicate 32 0))
  c0 : w.cell? ⟨gw, 53, none⟩ = some (.slice a k c)
  s0 : w.cell? ⟨gw, 54, none⟩ = some (.slice none 0 0)
  r1 : Rd w (some ⟨gw, 55, none⟩) 20 A1
  n1 : w.cell? ⟨gw, 75, none⟩ = some (.int .u64 0)
  b1 : w.rangeAt gw 76 (cellsL L)
  c1 : w.cell? ⟨gw, 108, none⟩ = some (.slice none 0 0)
  s1 : w.cell? ⟨gw, 109, none⟩ = some (.slice none 0 0)
theorem Stg.turn {S : List Nat} {w w' : World} {gw : Nat} {A0 A1 L : List Nat} {a : Option Addr} {k c : Nat} (h : Stg w gw A0 A1 L a k c) (t : Turn S w w') (hn : gw ∉ S) : Stg w' gw A0 A1 L a k c := by
  have e : ∀ o, w'.cell? ⟨gw, o, none⟩ = w.cell? ⟨gw, o, none⟩ := fun o => t.cell (p := ⟨gw, o, none⟩) h.lt hn
  have rd : ∀ (o : Nat) (B : List Nat), Rd w (some ⟨gw, o, none⟩) 20 B → Rd w' (some ⟨gw, o, none⟩) 20 B := fun o B r => ⟨r.length, fun i hi => by
    obtain ⟨b, off, h1, h2, h3⟩ := r.cell i hi
    injection h1 with h1
    injection h1 with h1 h4
    subst h1 h4
    exact ⟨gw, o, rfl, Nat.lt_of_lt_of_le h2 t.size, by rw [e]; exact h3⟩, r.dig⟩
  exact ⟨Nat.lt_of_lt_of_le h.lt t.size, rd _ _ h.r0, by rw [e]; exact h.n0, fun j v hv => by rw [e]; exact h.b0 j v hv, by rw [e]; exact h.c0, by rw [e]; exact h.s0, rd _ _ h.r1, by rw [e]; exact h.n1, fun j v hv => by rw [e]; exact h.b1 j v hv, by rw [e]; exact h.c1, by rw [e]; exact h.s1⟩
theorem range_at {w : World} {g off : Nat} {L : List Nat} (h : w.rangeAt g off (cellsL L)) (hL : L.length = 32) : ∀ j, j < 32 → w.cell? ⟨g, off + j, none⟩ = some (.int .u8 ((L.getD j 0 : Nat) : Int)) := fun j hj => by
  refine h j _ ?_
  unfold cellsL
  rw [List.getElem?_map, List.getElem?_eq_getElem (by omega), List.getD_eq_getElem?_getD, List.getElem?_eq_getElem (by omega)]
  rfl

set_option maxRecDepth 100000 in
set_option maxHeartbeats 4000000 in
theorem worldOK_two (w : World) (gw cw : Nat) (A0 A1 L : List Nat) (a : Option Addr) (k c : Nat) (h : Stg w gw A0 A1 L a k c) (hk : k ≤ 256) (hL : L.length = 32) (dL : D.Dig L) (hne : L ≠ List.replicate 32 0)
    (hlt : Op.bytesLess (strL A0).toList (strL A1).toList = true) :
    Calls Safg.prog 155 #[.slice (some ⟨gw, 0, none⟩) 2 cw] w fun e w' => e = .returned (.bool true) ∧ Below w.heap.size w w' := by
  have hlw := h.lt
  go_enter Safg.func155, Safg.ntmps155
  go_upto_region 4 with (refine wpList_alloc_arr rfl 51 rfl 32 Safg.zero51 ?_; intro w1 gs hgs o1 b1)
  have h1 := h.turn (Turn.of_below b1 (Nat.le_refl _) []) (by simp)
  have ngs : gw ≠ gs := by omega
  go_upto_region 5 with fail
  go_loopw [10] (fun i wr => ∃ (j : Nat) (K : List Nat), j ≤ 2 ∧ i = .int .i64 j ∧ Own wr gs K ∧ Turn [gs] w1 wr ∧ K.length = 32 ∧ (j < 2 → K = List.replicate 32 0)) (fun i _ => 2 - (intOf i).toNat)
  case atStart => exact ⟨0, _, by omega, rfl, o1, Turn.refl _ _, by simp, fun _ => rfl⟩
  case round =>
    obtain ⟨j, K, hj, rfl, own, only, hK, hz⟩ := hrel
    have hr := h1.turn only (by simpa using ngs)
    rcases (show j = 0 ∨ j = 1 ∨ j = 2 by omega) with rfl | rfl | rfl
    · obtain rfl := hz (by omega)
      clear hz hK
      go_upto_region 7 with fail
      go_quiet (fail)
      have hq := hr.turn (S := []) (w' := wr.drewN nq) ⟨rfl, rfl, rfl, Nat.le_refl _, fun _ _ _ => rfl⟩ (by simp)
      have ownq := (Same.drewN wr nq).own own
      have onlyq := only.trans (Turn.of_only ((Same.drewN wr nq).only gs))
      generalize wr.drewN nq = wq at *
      have H1 := accountOK_nonce wq gw 0 1 a k c (by omega) hk hq.n0 hq.c0 hq.s0
      have H2 := addTo_zero wq gs gw 21 (List.replicate 32 0) ownq (range_at hq.b0 (by simp)) (by simp) (D.Dig.replicate _) ngs
      go_wp2_with (first | (go_at_call 300; refine H1.mono ?_; rintro e w5 ⟨rfl, hw⟩; subst hw) | (go_at_call 301; refine H2.mono ?_; rintro e w6 ⟨rfl, own6, n6⟩))
      go_roundw
      case rel => exact ⟨1, _, by omega, by go_num, own6, onlyq.trans (Turn.of_only n6), by simp, fun _ => rfl⟩
      case measure => simp [intOf]
    · obtain rfl := hz (by omega)
      clear hz hK
      go_upto_region 7 with fail
      have hD := hr.turn (S := []) (w' := wr.drew) (Turn.drew [] wr) (by simp)
      have r1 := run_string_bytes wr.drew _ 20 20 A0 hD.r0
      have r2 := run_string_bytes wr.drew _ 20 20 A1 hD.r1
      have r3 := hlt
      generalize strL A0 = sa at *
      generalize strL A1 = sb at *
      refine wp_region_held_drew (S := fun w' => w' = wr.drew) (by kernel_rfl) rfl (fun hHeld => ?_)
      refine wpAnyH_take' (i := 0) (d := 13) (v := .int .i64 1) rfl rfl (by kernel_rfl) (by kernel_rfl) (by kernel_rfl) (fun _ _ _ h => h) (Or.inl ⟨by rfl, fun w hw => by subst hw; go_simp⟩) hHeld ?_
      simp only [Act.put, List.setIfInBounds_toArray, List.set_cons_zero, List.set_cons_succ]
      refine wpAnyH_take' (i := 1) (d := 14) (v := .bool true) rfl rfl (by kernel_rfl) (by kernel_rfl) (by kernel_rfl) (fun _ _ _ h => h) (Or.inl ⟨by rfl, fun w hw => by subst hw; go_simp⟩) hHeld ?_
      simp only [Act.put, List.setIfInBounds_toArray, List.set_cons_zero, List.set_cons_succ]
      refine wpAnyH_take' (i := 2) (d := 15) (v := .bool true) rfl rfl (by kernel_rfl) (by kernel_rfl) (by kernel_rfl) (fun _ _ _ h => h) (Or.inl ⟨by rfl, fun w hw => by subst hw; go_simp⟩) hHeld ?_
      simp only [Act.put, List.setIfInBounds_toArray, List.set_cons_zero, List.set_cons_succ]
      refine wpAnyH_take' (i := 3) (d := 16) (v := .slice (some ⟨gw, 0, none⟩) 2 cw) rfl rfl (by kernel_rfl) (by kernel_rfl) (by kernel_rfl) (fun _ _ _ h => h) (Or.inl ⟨by rfl, fun w hw => by subst hw; go_simp⟩) hHeld ?_
      simp only [Act.put, List.setIfInBounds_toArray, List.set_cons_zero, List.set_cons_succ]
      refine wpAnyH_take' (i := 4) (d := 17) (v := .int .i64 1) rfl rfl (by kernel_rfl) (by kernel_rfl) (by kernel_rfl) (fun _ _ _ h => h) (Or.inl ⟨by rfl, fun w hw => by subst hw; go_simp⟩) hHeld ?_
      simp only [Act.put, List.setIfInBounds_toArray, List.set_cons_zero, List.set_cons_succ]
      refine wpAnyH_take' (i := 5) (d := 18) (v := .int .i64 0) rfl rfl (by kernel_rfl) (by kernel_rfl) (by kernel_rfl) (fun _ _ _ h => h) (Or.inl ⟨by rfl, fun w hw => by subst hw; go_simp; rfl⟩) hHeld ?_
      simp only [Act.put, List.setIfInBounds_toArray, List.set_cons_zero, List.set_cons_succ]
      refine wpAnyH_take' (i := 6) (d := 19) (v := .pointer (some ⟨gw, 0, none⟩)) rfl rfl (by kernel_rfl) (by kernel_rfl) (by kernel_rfl) (fun _ _ _ h => h) (Or.inl ⟨by rfl, fun w hw => by subst hw; go_simp⟩) hHeld ?_
      simp only [Act.put, List.setIfInBounds_toArray, List.set_cons_zero, List.set_cons_succ]
      refine wpAnyH_take' (i := 7) (d := 20) (v := .pointer (some ⟨gw, 0, none⟩)) rfl rfl (by kernel_rfl) (by kernel_rfl) (by kernel_rfl) (fun _ _ _ h => h) (Or.inl ⟨by rfl, fun w hw => by subst hw; go_simp⟩) hHeld ?_
      simp only [Act.put, List.setIfInBounds_toArray, List.set_cons_zero, List.set_cons_succ]
      refine wpAnyH_take' (i := 8) (d := 21) (v := .slice (some ⟨gw, 0, none⟩) 20 20) rfl rfl (by kernel_rfl) (by kernel_rfl) (by kernel_rfl) (fun _ _ _ h => h) (Or.inl ⟨by rfl, fun w hw => by subst hw; go_simp⟩) hHeld ?_
      simp only [Act.put, List.setIfInBounds_toArray, List.set_cons_zero, List.set_cons_succ]
      refine wpAnyH_take' (i := 9) (d := 22) (v := .string sa) rfl rfl (by kernel_rfl) (by kernel_rfl) (by kernel_rfl) (fun _ _ _ h => h) (Or.inl ⟨by rfl, fun w hw => by subst hw; go_simp⟩) hHeld ?_
      simp only [Act.put, List.setIfInBounds_toArray, List.set_cons_zero, List.set_cons_succ]
      refine wpAnyH_take' (i := 10) (d := 23) (v := .slice (some ⟨gw, 0, none⟩) 2 cw) rfl rfl (by kernel_rfl) (by kernel_rfl) (by kernel_rfl) (fun _ _ _ h => h) (Or.inl ⟨by rfl, fun w hw => by subst hw; go_simp⟩) hHeld ?_
      simp only [Act.put, List.setIfInBounds_toArray, List.set_cons_zero, List.set_cons_succ]
      refine wpAnyH_take' (i := 11) (d := 24) (v := .int .i64 1) rfl rfl (by kernel_rfl) (by kernel_rfl) (by kernel_rfl) (fun _ _ _ h => h) (Or.inl ⟨by rfl, fun w hw => by subst hw; go_simp⟩) hHeld ?_
      simp only [Act.put, List.setIfInBounds_toArray, List.set_cons_zero, List.set_cons_succ]
      refine wpAnyH_take' (i := 12) (d := 25) (v := .pointer (some ⟨gw, 55, none⟩)) rfl rfl (by kernel_rfl) (by kernel_rfl) (by kernel_rfl) (fun _ _ _ h => h) (Or.inl ⟨by rfl, fun w hw => by subst hw; go_simp⟩) hHeld ?_
      simp only [Act.put, List.setIfInBounds_toArray, List.set_cons_zero, List.set_cons_succ]
      refine wpAnyH_take' (i := 13) (d := 26) (v := .pointer (some ⟨gw, 55, none⟩)) rfl rfl (by kernel_rfl) (by kernel_rfl) (by kernel_rfl) (fun _ _ _ h => h) (Or.inl ⟨by rfl, fun w hw => by subst hw; go_simp⟩) hHeld ?_
      simp only [Act.put, List.setIfInBounds_toArray, List.set_cons_zero, List.set_cons_succ]
      refine wpAnyH_take' (i := 14) (d := 27) (v := .slice (some ⟨gw, 55, none⟩) 20 20) rfl rfl (by kernel_rfl) (by kernel_rfl) (by kernel_rfl) (fun _ _ _ h => h) (Or.inl ⟨by rfl, fun w hw => by subst hw; go_simp⟩) hHeld ?_
      simp only [Act.put, List.setIfInBounds_toArray, List.set_cons_zero, List.set_cons_succ]
      refine wpAnyH_take' (i := 15) (d := 28) (v := .string sb) rfl rfl (by kernel_rfl) (by kernel_rfl) (by kernel_rfl) (fun _ _ _ h => h) (Or.inl ⟨by rfl, fun w hw => by subst hw; go_simp⟩) hHeld ?_
      simp only [Act.put, List.setIfInBounds_toArray, List.set_cons_zero, List.set_cons_succ]
      refine wpAnyH_take' (i := 16) (d := 29) (v := .bool false) rfl rfl (by kernel_rfl) (by kernel_rfl) (by kernel_rfl) (fun _ _ _ h => h) (Or.inl ⟨by rfl, fun w hw => by subst hw; go_simp⟩) hHeld ?_
      simp only [Act.put, List.setIfInBounds_toArray, List.set_cons_zero, List.set_cons_succ]
      refine wpAnyH_take' (i := 17) (d := 30) (v := .bool false) rfl rfl (by kernel_rfl) (by kernel_rfl) (by kernel_rfl) (fun _ _ _ h => h) (Or.inl ⟨by rfl, fun w hw => by subst hw; go_simp⟩) hHeld ?_
      simp only [Act.put, List.setIfInBounds_toArray, List.set_cons_zero, List.set_cons_succ]
      refine wpAnyH_done (by kernel_rfl) ?_ _
      have ownD := (Same.drew wr).own own
      have onlyD := only.trans (Turn.drew [gs] wr)
      clear hHeld r1 r2 r3
      generalize wr.drew = wq at *
      have H1 := accountOK_balance wq gw 55 L hL dL hne hD.n1 hD.b1 hD.c1 hD.s1
      have H2 := addTo_zero wq gs gw 76 L ownD (range_at hD.b1 hL) hL dL ngs
      go_wp2_with (first | (go_at_call 300; refine H1.mono ?_; rintro e w5 ⟨rfl, hw⟩; subst hw) | (go_at_call 301; refine H2.mono ?_; rintro e w6 ⟨rfl, own6, n6⟩))
      go_roundw
      case rel => exact ⟨2, _, by omega, by go_num, own6, onlyD.trans (Turn.of_only n6), hL, fun h => absurd h (by omega)⟩
      case measure => simp [intOf]
    · clear hz
      go_wp2
      go_ret
      refine ⟨rfl, b1.trans (only.below (B := w.heap.size) (by have := b1.size; omega) ?_)⟩
      intro q hq
      obtain rfl : q = gs := by simpa using hq
      exact hgs
end Go.Proofs.YgcsafGreat
