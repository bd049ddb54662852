/-
  Flat (201), Pass (74) of a flat instruction, Admit (23).
-/
import Derived.Test.YgcsafGreatStep1
namespace Go.Proofs.YgcsafGreat
open Go.RowKit
set_option linter.unusedVariables false
set_option linter.unusedSimpArgs false

set_option maxRecDepth 100000 in
set_option maxHeartbeats 1000000 in
theorem flat_push (w : World) : Calls Safg.prog 201 #[.int .u8 ((127 : Nat) : Int)] w fun e w' => e = .returned (.bool true) ∧ w' = w := by
  go_enter Safg.func201, Safg.ntmps201
  go_wp2
  go_ret
  exact ⟨rfl, rfl⟩
set_option maxRecDepth 100000 in
set_option maxHeartbeats 1000000 in
theorem flat_exp (w : World) : Calls Safg.prog 201 #[.int .u8 ((10 : Nat) : Int)] w fun e w' => e = .returned (.bool false) ∧ w' = w := by
  go_enter Safg.func201, Safg.ntmps201
  go_wp2
  go_ret
  exact ⟨rfl, rfl⟩
set_option maxRecDepth 100000 in
set_option maxHeartbeats 1000000 in
theorem flat_low (w : World) (o : Nat) (ho : o < 32) (h10 : o ≠ 10) : Calls Safg.prog 201 #[.int .u8 (o : Int)] w fun e w' => e = .returned (.bool true) ∧ w' = w := by
  have t1 : decide ((o : Int) < 32) = true := decide_eq_true (by omega)
  have t2 : ((o : Int) != 10) = true := by simp; omega
  go_enter Safg.func201, Safg.ntmps201
  go_wp2
  go_ret
  exact ⟨rfl, rfl⟩

/-- What a step's part leaves. -/
def RunPost (v : Value) (w : World) (gm gv gc pc sp gas : Nat) (ws : Nat → Wd4) (C Ls Lc : List Nat) (e : Ending) (w' : World) : Prop :=
  e = .returned v ∧ Run w' gm gv gc pc sp gas ws C Ls Lc ∧ Turn [gm] w w'

set_option maxRecDepth 100000 in
set_option maxHeartbeats 2000000 in
theorem pass_flat (w : World) (gm gv gc pc sp gas o sg : Nat) (ws : Nat → Wd4) (C Ls Lc : List Nat) (h : Run w gm gv gc pc sp gas ws C Ls Lc) (hs : sp ≤ 64) (hg : gas < 18446744073709551616) (hsg : sg ≤ gas)
    (HF : ∀ w, Calls Safg.prog 201 #[.int .u8 (o : Int)] w fun e w' => e = .returned (.bool true) ∧ w' = w) (t1 : ((o : Int) == 240) = false) (t2 : ((o : Int) == 245) = false) (t3 : ((o : Int) == 62) = false) :
    Calls Safg.prog 74 #[.pointer (some ⟨gm, 0, none⟩), .int .u8 (o : Int), .int .u16 (sg : Int)] w (RunPost (.bool true) w gm gv gc pc sp (gas - sg) ws C Ls Lc) := by
  have HR := running_any w gm gv gc pc sp gas ws C Ls Lc h
  have q1 : IntKind.u64.wrap (sg : Int) = (sg : Int) := by simp [IntKind.wrap, IntKind.bits, IntKind.signed]; omega
  have t4 : decide ((gas : Int) < (sg : Int)) = false := decide_eq_false (by omega)
  obtain ⟨g2, hg2⟩ : ∃ g, gas - sg = g := ⟨_, rfl⟩
  have e1 : (gas : Int) - (sg : Int) = (g2 : Int) := by omega
  have q2 : IntKind.u64.wrap (g2 : Int) = (g2 : Int) := by simp [IntKind.wrap, IntKind.bits, IntKind.signed]; omega
  rw [hg2]
  clear hg2 hsg hg
  go_enter Safg.func74, Safg.ntmps74
  go_upto_region 2 with (go_at_call 25; refine HR.mono ?_; rintro e w1 ⟨rfl, b1⟩)
  have h1 := h.below b1
  obtain ⟨c0, cPh, cT, cN, cS, cPC, cSB, cSP, cG, cC⟩ := h1.cells
  obtain ⟨f, m1, mf1⟩ := h1.m
  have d1 := m1.free 1810
  have m2 := m1.set (k := 1810) (by omega) (.int .u64 (g2 : Int))
  have n2 := (Only.refl gm w1).setCell 1810 (.int .u64 (g2 : Int))
  have h2 := h1.only n2 m2 (mf1.setGas (by omega) g2)
  have T2 := (Turn.of_below b1 (Nat.le_refl _) [gm]).trans (Turn.of_only n2)
  clear h HR h1 m1 mf1 m2 n2 b1
  go_wp2_with (go_at_call 201; refine (HF _).mono ?_; rintro e w3 ⟨rfl, rfl⟩)
  go_ret
  exact ⟨rfl, h2, T2⟩

set_option maxRecDepth 100000 in
set_option maxHeartbeats 2000000 in
theorem admit_any (w : World) (gm gv gc pc sp gas gas' o tk sg : Nat) (ws : Nat → Wd4) (C Ls Lc : List Nat) (h : Run w gm gv gc pc sp gas ws C Ls Lc) (hs : sp - tk < 64) (ht : tk ≤ sp) (ht2 : tk ≤ 8) (hs2 : sp ≤ 64)
    (HP : ∀ w, Run w gm gv gc pc sp gas ws C Ls Lc → Calls Safg.prog 74 #[.pointer (some ⟨gm, 0, none⟩), .int .u8 (o : Int), .int .u16 (sg : Int)] w (RunPost (.bool true) w gm gv gc pc sp gas' ws C Ls Lc)) :
    Calls Safg.prog 23 #[.pointer (some ⟨gm, 0, none⟩), .int .u8 (o : Int), .int .u8 (tk : Int), .int .u8 1, .int .u16 (sg : Int), .bool true] w (RunPost (.bool true) w gm gv gc pc sp gas' ws C Ls Lc) := by
  have HR := running_any w gm gv gc pc sp gas ws C Ls Lc h
  have q1 : IntKind.u16.wrap (tk : Int) = (tk : Int) := by simp [IntKind.wrap, IntKind.bits, IntKind.signed]; omega
  have t1 : decide ((sp : Int) < (tk : Int)) = false := decide_eq_false (by omega)
  obtain ⟨k, hk⟩ : ∃ k, sp - tk = k := ⟨_, rfl⟩
  have e1 : (sp : Int) - (tk : Int) = (k : Int) := by omega
  have q2 : IntKind.u16.wrap (k : Int) = (k : Int) := by simp [IntKind.wrap, IntKind.bits, IntKind.signed]; omega
  have q3 : IntKind.u16.wrap ((k : Int) + 1) = (k : Int) + 1 := by simp [IntKind.wrap, IntKind.bits, IntKind.signed]; omega
  have t2 : decide ((64 : Int) < (k : Int) + 1) = false := decide_eq_false (by omega)
  clear hk
  go_enter Safg.func23, Safg.ntmps23
  go_upto_region 2 with (go_at_call 25; refine HR.mono ?_; rintro e w1 ⟨rfl, b1⟩)
  have h1 := h.below b1
  obtain ⟨c0, cPh, cT, cN, cS, cPC, cSB, cSP, cG, cC⟩ := h1.cells
  have HQ := HP w1 h1
  have T1 := Turn.of_below b1 (Nat.le_refl _) [gm]
  clear h HR h1 HP b1 hs ht
  go_wp2_with (go_at_call 74; refine HQ.mono ?_; rintro e w3 ⟨rfl, h3, T3⟩)
  go_ret
  exact ⟨rfl, h3, T1.trans T3⟩
end Go.Proofs.YgcsafGreat
