/-
  Pass (74) of EXP: ExpCost (319), dynamic (203), reaches (202).
-/
import Derived.Test.YgcsafGreatMem
import Derived.Test.YgcsafGreatStep2
import Derived.Test.YgcsafGreatNBytes
namespace Go.Proofs.YgcsafGreat
open Go.RowKit
set_option linter.unusedVariables false
set_option linter.unusedSimpArgs false

set_option maxRecDepth 100000 in
set_option maxHeartbeats 1000000 in
theorem expCost_any (w : World) (b : Wd4) (hb : b.Ok) (m : Nat) (hm : Bytes b.val m) (h32 : m ≤ 32) :
    Calls Safg.prog 319 #[b.v] w fun e w' => e = .returned (.int .u64 ((10 + 50 * m : Nat) : Int)) ∧ Below w.heap.size w w' := by
  have HN : ∀ w, Calls Safg.prog 376 #[b.v] w fun e w' => e = .returned (.int .u8 (m : Int)) ∧ Below w.heap.size w w' := fun w => (nbytes_any w b hb).mono fun e w' ⟨m', h1, h2, h3, h4⟩ => ⟨by rw [h3, Bytes.unique h1 hm], h4⟩
  have q1 : IntKind.u64.wrap (m : Int) = (m : Int) := by simp [IntKind.wrap, IntKind.bits, IntKind.signed]; omega
  obtain ⟨p, hp⟩ : ∃ p, 50 * m = p := ⟨_, rfl⟩
  have e1 : 50 * (m : Int) = (p : Int) := by omega
  have q2 : IntKind.u64.wrap (p : Int) = (p : Int) := by simp [IntKind.wrap, IntKind.bits, IntKind.signed]; omega
  obtain ⟨c, hc⟩ : ∃ c, 10 + 50 * m = c := ⟨_, rfl⟩
  have e2 : 10 + (p : Int) = (c : Int) := by omega
  have q3 : IntKind.u64.wrap (c : Int) = (c : Int) := by simp [IntKind.wrap, IntKind.bits, IntKind.signed]; omega
  rw [hc]
  clear hm hp hc
  go_enter Safg.func319, Safg.ntmps319
  go_wp2_with (first | (refine wpList_box_agg rfl 65 (.tmp 0) rfl b.cells rfl ?_; intro w1 g1 hg1 k1 b1) | (refine wpList_load_mid rfl 65 (.tmp 1) rfl g1 0 rfl _ _ k1.cell Safg.under65 rfl Safg.size65 ?_) | (go_at_call 376; refine (HN _).mono ?_; rintro e w2 ⟨rfl, b2⟩))
  go_ret
  exact ⟨rfl, b1.trans (b2.mono b1.size)⟩
set_option maxRecDepth 100000 in
set_option maxHeartbeats 1000000 in
theorem reaches_exp (w : World) (gm : Nat) : Calls Safg.prog 202 #[.pointer (some ⟨gm, 0, none⟩), .pointer (some ⟨gm, 1803, none⟩), .int .u8 10] w fun e w' => e = .returned (.tuple #[.int .u64 0, .bool true]) ∧ w' = w := by
  go_enter Safg.func202, Safg.ntmps202
  go_wp2
  refine bodyPost_ret (v := .tuple #[.int .u64 0, .bool true]) ?_ rfl ⟨rfl, rfl⟩
  simp [results, Safg.results202]
section
variable (w : World) (gm gv gc pc gas m : Nat) (ws : Nat → Wd4) (C Ls Lc : List Nat)
set_option maxRecDepth 100000 in
set_option maxHeartbeats 1000000 in
theorem dynamic_exp (h : Run w gm gv gc pc 3 gas ws C Ls Lc) (hm : Bytes (ws 1).val m) (h32 : m ≤ 32) : Calls Safg.prog 203 #[.pointer (some ⟨gm, 0, none⟩), .pointer (some ⟨gm, 1803, none⟩), .int .u8 10] w fun e w' => e = .returned (.int .u64 ((50 * m : Nat) : Int)) ∧ Below w.heap.size w w' := by
  have HA : Calls Safg.prog 199 #[.pointer (some ⟨gm, 0, none⟩), .pointer (some ⟨gm, 1803, none⟩), .int .i64 1] w fun e w' => e = .returned (ws 1).v ∧ Below w.heap.size w w' := arg_any w gm gv gc pc 3 gas 1 ws C Ls Lc h (by omega) (by omega)
  have a1 : (ws 1).Ok := by obtain ⟨f, mb, mf⟩ := h.m; exact mf.ok 1 (by omega)
  have HE := fun w => expCost_any w (ws 1) a1 m hm h32
  obtain ⟨c, hc⟩ : ∃ c, 10 + 50 * m = c := ⟨_, rfl⟩
  obtain ⟨p, hp⟩ : ∃ p, 50 * m = p := ⟨_, rfl⟩
  simp only [hc] at HE
  have e1 : (c : Int) - 10 = (p : Int) := by omega
  have q1 : IntKind.u64.wrap (p : Int) = (p : Int) := by simp [IntKind.wrap, IntKind.bits, IntKind.signed]; omega
  rw [hp]
  clear hc hp h hm
  go_enter Safg.func203, Safg.ntmps203
  go_wp2_with (first | (go_at_call 199; refine HA.mono ?_; rintro e w1 ⟨rfl, b1⟩) | (go_at_call 319; refine (HE _).mono ?_; rintro e w2 ⟨rfl, b2⟩))
  go_ret
  exact ⟨rfl, b1.trans (b2.mono b1.size)⟩
set_option maxRecDepth 100000 in
set_option maxHeartbeats 4000000 in
theorem pass_exp (h : Run w gm gv gc pc 3 gas ws C Ls Lc) (hm : Bytes (ws 1).val m) (h32 : m ≤ 32) (hg : gas < 18446744073709551616) (hsg : 10 + 50 * m ≤ gas) :
    Calls Safg.prog 74 #[.pointer (some ⟨gm, 0, none⟩), .int .u8 ((10 : Nat) : Int), .int .u16 ((10 : Nat) : Int)] w (RunPost (.bool true) w gm gv gc pc 3 (gas - (10 + 50 * m)) ws C Ls Lc) := by
  have HR := running_any w gm gv gc pc 3 gas ws C Ls Lc h
  obtain ⟨p, hp⟩ : ∃ p, 50 * m = p := ⟨_, rfl⟩
  obtain ⟨c, hc⟩ : ∃ c, 10 + 50 * m = c := ⟨_, rfl⟩
  rw [hc] at hsg
  rw [hc]
  have e1 : 10 + (p : Int) = (c : Int) := by omega
  have q1 : IntKind.u64.wrap (c : Int) = (c : Int) := by simp [IntKind.wrap, IntKind.bits, IntKind.signed]; omega
  have t1 : decide ((gas : Int) < (c : Int)) = false := decide_eq_false (by omega)
  obtain ⟨g2, hg2⟩ : ∃ g, gas - c = g := ⟨_, rfl⟩
  have e2 : (gas : Int) - (c : Int) = (g2 : Int) := by omega
  have q2 : IntKind.u64.wrap (g2 : Int) = (g2 : Int) := by simp [IntKind.wrap, IntKind.bits, IntKind.signed]; omega
  rw [hg2]
  have HD := fun (w : World) (h : Run w gm gv gc pc 3 gas ws C Ls Lc) => dynamic_exp w gm gv gc pc gas m ws C Ls Lc h hm h32
  simp only [hp] at HD
  clear hp hc hg2 hsg hg hm
  go_enter Safg.func74, Safg.ntmps74
  go_upto_region 2 with (go_at_call 25; refine HR.mono ?_; rintro e w1 ⟨rfl, b1⟩)
  have h1 := h.below b1
  have T1 := Turn.of_below b1 (Nat.le_refl _) [gm]
  obtain ⟨c0, cPh, cT, cN, cS, cPC, cSB, cSP, cG, cC⟩ := h1.cells
  have HF := flat_exp w1
  have HL := len_any w1 gm gv gc pc 3 gas ws C Ls Lc h1
  clear h HR b1
  go_upto_region 16 with (go_at_call 201; refine HF.mono ?_; rintro e w2 ⟨rfl, rfl⟩)
  go_upto_region 20 with (first | (go_at_call 202; refine (reaches_exp _ gm).mono ?_; rintro e w3 ⟨rfl, rfl⟩) | (go_at_call 29; refine HL.mono ?_; rintro e w4 ⟨rfl, b4⟩))
  have h4 := h1.below b4
  have T4 := T1.trans (Turn.of_below b4 (Nat.le_refl _) _)
  clear h1 T1 b4 HL HF c0 cPh cT cN cS cPC cSB cSP cG cC
  go_upto_region 21 with (go_at_call 203; refine (HD _ h4).mono ?_; rintro e w5 ⟨rfl, b5⟩)
  have h5 := h4.below b5
  have T5 := T4.trans (Turn.of_below b5 (Nat.le_refl _) _)
  clear h4 T4 b5 HD
  obtain ⟨c0, cPh, cT, cN, cS, cPC, cSB, cSP, cG, cC⟩ := h5.cells
  obtain ⟨f, m5, mf5⟩ := h5.m
  have d1 := m5.free 1810
  have m6 := m5.set (k := 1810) (by omega) (.int .u64 (g2 : Int))
  have n6 := (Only.refl gm w5).setCell 1810 (.int .u64 (g2 : Int))
  have h6 := h5.only n6 m6 (mf5.setGas (by omega) g2)
  have T6 := T5.trans (Turn.of_only n6)
  clear h5 m5 mf5 m6 n6
  go_wp2
  go_ret
  exact ⟨rfl, h6, T6⟩
end
end Go.Proofs.YgcsafGreat
