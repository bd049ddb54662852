/-
  Exec (24), II.
-/
import Derived.Test.YgcsafGreatOpC
import Derived.Test.YgcsafGreatOpD
namespace Go.Proofs.YgcsafGreat
open Go.RowKit
set_option linter.unusedVariables false
set_option linter.unusedSimpArgs false

set_option maxRecDepth 100000 in
set_option maxHeartbeats 4000000 in
theorem exec_16 (w : World) (gm gv gc pc gas : Nat) (ws : Nat → Wd4) (C Ls Lc : List Nat) (h : Run w gm gv gc pc 3 gas ws C Ls Lc) (hpc : pc < C.length) (hC : C.length ≤ 256) (ho : C.getD pc 0 = 16) :
    Calls Safg.prog 24 #[.pointer (some ⟨gm, 0, none⟩), .int .u8 16] w (AluPost 16 w gm gv gc pc gas ws C Ls Lc) := by
  have HO := opx_16 w gm gv gc pc gas ws C Ls Lc h hpc hC ho
  clear h
  go_enter Safg.func24, Safg.ntmps24
  go_wp2_with (go_at_call 76; refine HO.mono ?_; rintro e w1 ⟨s, sok, sv, rfl, h1, T1⟩)
  go_end0
  exact ⟨s, sok, sv, rfl, h1, T1⟩
set_option maxRecDepth 100000 in
set_option maxHeartbeats 4000000 in
theorem exec_17 (w : World) (gm gv gc pc gas : Nat) (ws : Nat → Wd4) (C Ls Lc : List Nat) (h : Run w gm gv gc pc 3 gas ws C Ls Lc) (hpc : pc < C.length) (hC : C.length ≤ 256) (ho : C.getD pc 0 = 17) :
    Calls Safg.prog 24 #[.pointer (some ⟨gm, 0, none⟩), .int .u8 17] w (AluPost 17 w gm gv gc pc gas ws C Ls Lc) := by
  have HO := opx_17 w gm gv gc pc gas ws C Ls Lc h hpc hC ho
  clear h
  go_enter Safg.func24, Safg.ntmps24
  go_wp2_with (go_at_call 76; refine HO.mono ?_; rintro e w1 ⟨s, sok, sv, rfl, h1, T1⟩)
  go_end0
  exact ⟨s, sok, sv, rfl, h1, T1⟩
set_option maxRecDepth 100000 in
set_option maxHeartbeats 4000000 in
theorem exec_18 (w : World) (gm gv gc pc gas : Nat) (ws : Nat → Wd4) (C Ls Lc : List Nat) (h : Run w gm gv gc pc 3 gas ws C Ls Lc) (hpc : pc < C.length) (hC : C.length ≤ 256) (ho : C.getD pc 0 = 18) :
    Calls Safg.prog 24 #[.pointer (some ⟨gm, 0, none⟩), .int .u8 18] w (AluPost 18 w gm gv gc pc gas ws C Ls Lc) := by
  have HO := opx_18 w gm gv gc pc gas ws C Ls Lc h hpc hC ho
  clear h
  go_enter Safg.func24, Safg.ntmps24
  go_wp2_with (go_at_call 76; refine HO.mono ?_; rintro e w1 ⟨s, sok, sv, rfl, h1, T1⟩)
  go_end0
  exact ⟨s, sok, sv, rfl, h1, T1⟩
set_option maxRecDepth 100000 in
set_option maxHeartbeats 4000000 in
theorem exec_19 (w : World) (gm gv gc pc gas : Nat) (ws : Nat → Wd4) (C Ls Lc : List Nat) (h : Run w gm gv gc pc 3 gas ws C Ls Lc) (hpc : pc < C.length) (hC : C.length ≤ 256) (ho : C.getD pc 0 = 19) :
    Calls Safg.prog 24 #[.pointer (some ⟨gm, 0, none⟩), .int .u8 19] w (AluPost 19 w gm gv gc pc gas ws C Ls Lc) := by
  have HO := opx_19 w gm gv gc pc gas ws C Ls Lc h hpc hC ho
  clear h
  go_enter Safg.func24, Safg.ntmps24
  go_wp2_with (go_at_call 76; refine HO.mono ?_; rintro e w1 ⟨s, sok, sv, rfl, h1, T1⟩)
  go_end0
  exact ⟨s, sok, sv, rfl, h1, T1⟩
set_option maxRecDepth 100000 in
set_option maxHeartbeats 4000000 in
theorem exec_20 (w : World) (gm gv gc pc gas : Nat) (ws : Nat → Wd4) (C Ls Lc : List Nat) (h : Run w gm gv gc pc 3 gas ws C Ls Lc) (hpc : pc < C.length) (hC : C.length ≤ 256) (ho : C.getD pc 0 = 20) :
    Calls Safg.prog 24 #[.pointer (some ⟨gm, 0, none⟩), .int .u8 20] w (AluPost 20 w gm gv gc pc gas ws C Ls Lc) := by
  have HO := opx_20 w gm gv gc pc gas ws C Ls Lc h hpc hC ho
  clear h
  go_enter Safg.func24, Safg.ntmps24
  go_wp2_with (go_at_call 76; refine HO.mono ?_; rintro e w1 ⟨s, sok, sv, rfl, h1, T1⟩)
  go_end0
  exact ⟨s, sok, sv, rfl, h1, T1⟩
set_option maxRecDepth 100000 in
set_option maxHeartbeats 4000000 in
theorem exec_21 (w : World) (gm gv gc pc gas : Nat) (ws : Nat → Wd4) (C Ls Lc : List Nat) (h : Run w gm gv gc pc 3 gas ws C Ls Lc) (hpc : pc < C.length) (hC : C.length ≤ 256) (ho : C.getD pc 0 = 21) :
    Calls Safg.prog 24 #[.pointer (some ⟨gm, 0, none⟩), .int .u8 21] w (AluPost 21 w gm gv gc pc gas ws C Ls Lc) := by
  have HO := opx_21 w gm gv gc pc gas ws C Ls Lc h hpc hC ho
  clear h
  go_enter Safg.func24, Safg.ntmps24
  go_wp2_with (go_at_call 76; refine HO.mono ?_; rintro e w1 ⟨s, sok, sv, rfl, h1, T1⟩)
  go_end0
  exact ⟨s, sok, sv, rfl, h1, T1⟩
set_option maxRecDepth 100000 in
set_option maxHeartbeats 4000000 in
theorem exec_22 (w : World) (gm gv gc pc gas : Nat) (ws : Nat → Wd4) (C Ls Lc : List Nat) (h : Run w gm gv gc pc 3 gas ws C Ls Lc) (hpc : pc < C.length) (hC : C.length ≤ 256) (ho : C.getD pc 0 = 22) :
    Calls Safg.prog 24 #[.pointer (some ⟨gm, 0, none⟩), .int .u8 22] w (AluPost 22 w gm gv gc pc gas ws C Ls Lc) := by
  have HO := opx_22 w gm gv gc pc gas ws C Ls Lc h hpc hC ho
  clear h
  go_enter Safg.func24, Safg.ntmps24
  go_wp2_with (go_at_call 77; refine HO.mono ?_; rintro e w1 ⟨s, sok, sv, rfl, h1, T1⟩)
  go_end0
  exact ⟨s, sok, sv, rfl, h1, T1⟩
set_option maxRecDepth 100000 in
set_option maxHeartbeats 4000000 in
theorem exec_23 (w : World) (gm gv gc pc gas : Nat) (ws : Nat → Wd4) (C Ls Lc : List Nat) (h : Run w gm gv gc pc 3 gas ws C Ls Lc) (hpc : pc < C.length) (hC : C.length ≤ 256) (ho : C.getD pc 0 = 23) :
    Calls Safg.prog 24 #[.pointer (some ⟨gm, 0, none⟩), .int .u8 23] w (AluPost 23 w gm gv gc pc gas ws C Ls Lc) := by
  have HO := opx_23 w gm gv gc pc gas ws C Ls Lc h hpc hC ho
  clear h
  go_enter Safg.func24, Safg.ntmps24
  go_wp2_with (go_at_call 77; refine HO.mono ?_; rintro e w1 ⟨s, sok, sv, rfl, h1, T1⟩)
  go_end0
  exact ⟨s, sok, sv, rfl, h1, T1⟩
set_option maxRecDepth 100000 in
set_option maxHeartbeats 4000000 in
theorem exec_24 (w : World) (gm gv gc pc gas : Nat) (ws : Nat → Wd4) (C Ls Lc : List Nat) (h : Run w gm gv gc pc 3 gas ws C Ls Lc) (hpc : pc < C.length) (hC : C.length ≤ 256) (ho : C.getD pc 0 = 24) :
    Calls Safg.prog 24 #[.pointer (some ⟨gm, 0, none⟩), .int .u8 24] w (AluPost 24 w gm gv gc pc gas ws C Ls Lc) := by
  have HO := opx_24 w gm gv gc pc gas ws C Ls Lc h hpc hC ho
  clear h
  go_enter Safg.func24, Safg.ntmps24
  go_wp2_with (go_at_call 77; refine HO.mono ?_; rintro e w1 ⟨s, sok, sv, rfl, h1, T1⟩)
  go_end0
  exact ⟨s, sok, sv, rfl, h1, T1⟩
set_option maxRecDepth 100000 in
set_option maxHeartbeats 4000000 in
theorem exec_25 (w : World) (gm gv gc pc gas : Nat) (ws : Nat → Wd4) (C Ls Lc : List Nat) (h : Run w gm gv gc pc 3 gas ws C Ls Lc) (hpc : pc < C.length) (hC : C.length ≤ 256) (ho : C.getD pc 0 = 25) :
    Calls Safg.prog 24 #[.pointer (some ⟨gm, 0, none⟩), .int .u8 25] w (AluPost 25 w gm gv gc pc gas ws C Ls Lc) := by
  have HO := opx_25 w gm gv gc pc gas ws C Ls Lc h hpc hC ho
  clear h
  go_enter Safg.func24, Safg.ntmps24
  go_wp2_with (go_at_call 77; refine HO.mono ?_; rintro e w1 ⟨s, sok, sv, rfl, h1, T1⟩)
  go_end0
  exact ⟨s, sok, sv, rfl, h1, T1⟩
set_option maxRecDepth 100000 in
set_option maxHeartbeats 4000000 in
theorem exec_26 (w : World) (gm gv gc pc gas : Nat) (ws : Nat → Wd4) (C Ls Lc : List Nat) (h : Run w gm gv gc pc 3 gas ws C Ls Lc) (hpc : pc < C.length) (hC : C.length ≤ 256) (ho : C.getD pc 0 = 26) :
    Calls Safg.prog 24 #[.pointer (some ⟨gm, 0, none⟩), .int .u8 26] w (AluPost 26 w gm gv gc pc gas ws C Ls Lc) := by
  have HO := opx_26 w gm gv gc pc gas ws C Ls Lc h hpc hC ho
  clear h
  go_enter Safg.func24, Safg.ntmps24
  go_wp2_with (go_at_call 77; refine HO.mono ?_; rintro e w1 ⟨s, sok, sv, rfl, h1, T1⟩)
  go_end0
  exact ⟨s, sok, sv, rfl, h1, T1⟩
set_option maxRecDepth 100000 in
set_option maxHeartbeats 4000000 in
theorem exec_27 (w : World) (gm gv gc pc gas : Nat) (ws : Nat → Wd4) (C Ls Lc : List Nat) (h : Run w gm gv gc pc 3 gas ws C Ls Lc) (hpc : pc < C.length) (hC : C.length ≤ 256) (ho : C.getD pc 0 = 27) :
    Calls Safg.prog 24 #[.pointer (some ⟨gm, 0, none⟩), .int .u8 27] w (AluPost 27 w gm gv gc pc gas ws C Ls Lc) := by
  have HO := opx_27 w gm gv gc pc gas ws C Ls Lc h hpc hC ho
  clear h
  go_enter Safg.func24, Safg.ntmps24
  go_wp2_with (go_at_call 77; refine HO.mono ?_; rintro e w1 ⟨s, sok, sv, rfl, h1, T1⟩)
  go_end0
  exact ⟨s, sok, sv, rfl, h1, T1⟩
set_option maxRecDepth 100000 in
set_option maxHeartbeats 4000000 in
theorem exec_28 (w : World) (gm gv gc pc gas : Nat) (ws : Nat → Wd4) (C Ls Lc : List Nat) (h : Run w gm gv gc pc 3 gas ws C Ls Lc) (hpc : pc < C.length) (hC : C.length ≤ 256) (ho : C.getD pc 0 = 28) :
    Calls Safg.prog 24 #[.pointer (some ⟨gm, 0, none⟩), .int .u8 28] w (AluPost 28 w gm gv gc pc gas ws C Ls Lc) := by
  have HO := opx_28 w gm gv gc pc gas ws C Ls Lc h hpc hC ho
  clear h
  go_enter Safg.func24, Safg.ntmps24
  go_wp2_with (go_at_call 77; refine HO.mono ?_; rintro e w1 ⟨s, sok, sv, rfl, h1, T1⟩)
  go_end0
  exact ⟨s, sok, sv, rfl, h1, T1⟩
set_option maxRecDepth 100000 in
set_option maxHeartbeats 4000000 in
theorem exec_29 (w : World) (gm gv gc pc gas : Nat) (ws : Nat → Wd4) (C Ls Lc : List Nat) (h : Run w gm gv gc pc 3 gas ws C Ls Lc) (hpc : pc < C.length) (hC : C.length ≤ 256) (ho : C.getD pc 0 = 29) :
    Calls Safg.prog 24 #[.pointer (some ⟨gm, 0, none⟩), .int .u8 29] w (AluPost 29 w gm gv gc pc gas ws C Ls Lc) := by
  have HO := opx_29 w gm gv gc pc gas ws C Ls Lc h hpc hC ho
  clear h
  go_enter Safg.func24, Safg.ntmps24
  go_wp2_with (go_at_call 77; refine HO.mono ?_; rintro e w1 ⟨s, sok, sv, rfl, h1, T1⟩)
  go_end0
  exact ⟨s, sok, sv, rfl, h1, T1⟩
end Go.Proofs.YgcsafGreat
