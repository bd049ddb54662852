/-
  Exec (24) and execRows (92) of a push; Step (8).
-/
import Derived.Test.YgcsafGreatPush
import Derived.Test.YgcsafGreatExec1
import Derived.Test.YgcsafGreatExec2
namespace Go.Proofs.YgcsafGreat
open Go.RowKit
set_option linter.unusedVariables false
set_option linter.unusedSimpArgs false

set_option maxRecDepth 100000 in
set_option maxHeartbeats 4000000 in
/-- A push runs as 'OpPush' does. -/
theorem exec_push (w : World) (gm : Nat) (R : Ending → World → Prop) (HP : Calls Safg.prog 251 #[.pointer (some ⟨gm, 0, none⟩)] w fun e w' => e = .returned (.tuple #[]) ∧ R e w') :
    Calls Safg.prog 24 #[.pointer (some ⟨gm, 0, none⟩), .int .u8 127] w fun e w' => e = .returned (.tuple #[]) ∧ R e w' := by
  have HX : Calls Safg.prog 92 #[.pointer (some ⟨gm, 0, none⟩), .int .u8 127] w fun e w' => e = .returned (.tuple #[]) ∧ R e w' := by
    go_enter Safg.func92, Safg.ntmps92
    go_wp2_with (go_at_call 251; refine HP.mono ?_; rintro e w1 ⟨rfl, h1⟩)
    go_end0
    exact ⟨rfl, h1⟩
  clear HP
  go_enter Safg.func24, Safg.ntmps24
  go_wp2_with (go_at_call 92; refine HX.mono ?_; rintro e w1 ⟨rfl, h1⟩)
  go_end0
  exact ⟨rfl, h1⟩
set_option maxRecDepth 100000 in
set_option maxHeartbeats 4000000 in
/-- One step of a running machine. -/
theorem step_any (w : World) (gm gv gc pc sp gas gas' o tk sg : Nat) (ws : Nat → Wd4) (C Ls Lc : List Nat) (R : World → World → Prop) (h : Run w gm gv gc pc sp gas ws C Ls Lc) (hpc : pc < C.length) (hC : C.length ≤ 256) (ho : C.getD pc 0 = o)
    (HI : ∀ w, Calls Safg.prog 22 #[.int .u8 (o : Int)] w fun e w' => e = .returned (.tuple #[.int .u8 (tk : Int), .int .u8 1, .int .u16 (sg : Int), .bool true]) ∧ w' = w)
    (HA : ∀ w, Run w gm gv gc pc sp gas ws C Ls Lc → Calls Safg.prog 23 #[.pointer (some ⟨gm, 0, none⟩), .int .u8 (o : Int), .int .u8 (tk : Int), .int .u8 1, .int .u16 (sg : Int), .bool true] w (RunPost (.bool true) w gm gv gc pc sp gas' ws C Ls Lc))
    (HE : ∀ w, Run w gm gv gc pc sp gas' ws C Ls Lc → Calls Safg.prog 24 #[.pointer (some ⟨gm, 0, none⟩), .int .u8 (o : Int)] w fun e w' => e = .returned (.tuple #[]) ∧ R w w') :
    Calls Safg.prog 8 #[.pointer (some ⟨gm, 0, none⟩)] w fun e w' => e = .returned (.bool true) ∧ ∃ w1, Turn [gm] w w1 ∧ R w1 w' := by
  have HN := runNative_any w gm gv gc pc sp gas ws C Ls Lc h
  obtain ⟨c0, cPh, cT, cN, cS, cPC, cSB, cSP, cG, cC⟩ := h.cells
  go_enter Safg.func8, Safg.ntmps8
  go_upto_region 5 with (go_at_call 20; refine HN.mono ?_; rintro e w1 ⟨rfl, b1⟩)
  have h1 := h.below b1
  have T1 := Turn.of_below b1 (Nat.le_refl _) [gm]
  have HO := opcode_any w1 gm gv gc pc sp gas ws C Ls Lc h1 hpc hC
  rw [ho] at HO
  clear h HN b1 c0 cPh cT cN cS cPC cSB cSP cG cC
  go_upto_region 6 with (go_at_call 21; refine HO.mono ?_; rintro e w2 ⟨rfl, b2⟩)
  have h2 := h1.below b2
  have T2 := T1.trans (Turn.of_below b2 (Nat.le_refl _) _)
  have HB := HA w2 h2
  clear h1 T1 HO b2 HA
  go_upto_region 8 with (first | (go_at_call 22; refine (HI _).mono ?_; rintro e w3 ⟨rfl, rfl⟩) | (go_at_call 23; refine HB.mono ?_; rintro e w4 ⟨rfl, h4, T4⟩))
  have HF := HE w4 h4
  clear HE HB
  go_wp2_with (go_at_call 24; refine HF.mono ?_; rintro e w5 ⟨rfl, h5⟩)
  go_ret
  exact ⟨rfl, w4, T2.trans T4, h5⟩
end Go.Proofs.YgcsafGreat
