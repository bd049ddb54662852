/-
  Exec (24), I.
-/
import Derived.Test.YgcsafGreatOpA
import Derived.Test.YgcsafGreatOpB
namespace Go.Proofs.YgcsafGreat
open Go.RowKit
set_option linter.unusedVariables false
set_option linter.unusedSimpArgs false

set_option maxRecDepth 100000 in
set_option maxHeartbeats 4000000 in
theorem exec_1 (w : World) (gm gv gc pc gas : Nat) (ws : Nat → Wd4) (C Ls Lc : List Nat) (h : Run w gm gv gc pc 3 gas ws C Ls Lc) (hpc : pc < C.length) (hC : C.length ≤ 256) (ho : C.getD pc 0 = 1) :
    Calls Safg.prog 24 #[.pointer (some ⟨gm, 0, none⟩), .int .u8 1] w (AluPost 1 w gm gv gc pc gas ws C Ls Lc) := by
  have HO := opx_1 w gm gv gc pc gas ws C Ls Lc h hpc hC ho
  clear h
  go_enter Safg.func24, Safg.ntmps24
  go_wp2_with (go_at_call 75; refine HO.mono ?_; rintro e w1 ⟨s, sok, sv, rfl, h1, T1⟩)
  go_end0
  exact ⟨s, sok, sv, rfl, h1, T1⟩
set_option maxRecDepth 100000 in
set_option maxHeartbeats 4000000 in
theorem exec_2 (w : World) (gm gv gc pc gas : Nat) (ws : Nat → Wd4) (C Ls Lc : List Nat) (h : Run w gm gv gc pc 3 gas ws C Ls Lc) (hpc : pc < C.length) (hC : C.length ≤ 256) (ho : C.getD pc 0 = 2) :
    Calls Safg.prog 24 #[.pointer (some ⟨gm, 0, none⟩), .int .u8 2] w (AluPost 2 w gm gv gc pc gas ws C Ls Lc) := by
  have HO := opx_2 w gm gv gc pc gas ws C Ls Lc h hpc hC ho
  clear h
  go_enter Safg.func24, Safg.ntmps24
  go_wp2_with (go_at_call 75; refine HO.mono ?_; rintro e w1 ⟨s, sok, sv, rfl, h1, T1⟩)
  go_end0
  exact ⟨s, sok, sv, rfl, h1, T1⟩
set_option maxRecDepth 100000 in
set_option maxHeartbeats 4000000 in
theorem exec_3 (w : World) (gm gv gc pc gas : Nat) (ws : Nat → Wd4) (C Ls Lc : List Nat) (h : Run w gm gv gc pc 3 gas ws C Ls Lc) (hpc : pc < C.length) (hC : C.length ≤ 256) (ho : C.getD pc 0 = 3) :
    Calls Safg.prog 24 #[.pointer (some ⟨gm, 0, none⟩), .int .u8 3] w (AluPost 3 w gm gv gc pc gas ws C Ls Lc) := by
  have HO := opx_3 w gm gv gc pc gas ws C Ls Lc h hpc hC ho
  clear h
  go_enter Safg.func24, Safg.ntmps24
  go_wp2_with (go_at_call 75; refine HO.mono ?_; rintro e w1 ⟨s, sok, sv, rfl, h1, T1⟩)
  go_end0
  exact ⟨s, sok, sv, rfl, h1, T1⟩
set_option maxRecDepth 100000 in
set_option maxHeartbeats 4000000 in
theorem exec_4 (w : World) (gm gv gc pc gas : Nat) (ws : Nat → Wd4) (C Ls Lc : List Nat) (h : Run w gm gv gc pc 3 gas ws C Ls Lc) (hpc : pc < C.length) (hC : C.length ≤ 256) (ho : C.getD pc 0 = 4) :
    Calls Safg.prog 24 #[.pointer (some ⟨gm, 0, none⟩), .int .u8 4] w (AluPost 4 w gm gv gc pc gas ws C Ls Lc) := by
  have HO := opx_4 w gm gv gc pc gas ws C Ls Lc h hpc hC ho
  clear h
  go_enter Safg.func24, Safg.ntmps24
  go_wp2_with (go_at_call 75; refine HO.mono ?_; rintro e w1 ⟨s, sok, sv, rfl, h1, T1⟩)
  go_end0
  exact ⟨s, sok, sv, rfl, h1, T1⟩
set_option maxRecDepth 100000 in
set_option maxHeartbeats 4000000 in
theorem exec_5 (w : World) (gm gv gc pc gas : Nat) (ws : Nat → Wd4) (C Ls Lc : List Nat) (h : Run w gm gv gc pc 3 gas ws C Ls Lc) (hpc : pc < C.length) (hC : C.length ≤ 256) (ho : C.getD pc 0 = 5) :
    Calls Safg.prog 24 #[.pointer (some ⟨gm, 0, none⟩), .int .u8 5] w (AluPost 5 w gm gv gc pc gas ws C Ls Lc) := by
  have HO := opx_5 w gm gv gc pc gas ws C Ls Lc h hpc hC ho
  clear h
  go_enter Safg.func24, Safg.ntmps24
  go_wp2_with (go_at_call 75; refine HO.mono ?_; rintro e w1 ⟨s, sok, sv, rfl, h1, T1⟩)
  go_end0
  exact ⟨s, sok, sv, rfl, h1, T1⟩
set_option maxRecDepth 100000 in
set_option maxHeartbeats 4000000 in
theorem exec_6 (w : World) (gm gv gc pc gas : Nat) (ws : Nat → Wd4) (C Ls Lc : List Nat) (h : Run w gm gv gc pc 3 gas ws C Ls Lc) (hpc : pc < C.length) (hC : C.length ≤ 256) (ho : C.getD pc 0 = 6) :
    Calls Safg.prog 24 #[.pointer (some ⟨gm, 0, none⟩), .int .u8 6] w (AluPost 6 w gm gv gc pc gas ws C Ls Lc) := by
  have HO := opx_6 w gm gv gc pc gas ws C Ls Lc h hpc hC ho
  clear h
  go_enter Safg.func24, Safg.ntmps24
  go_wp2_with (go_at_call 75; refine HO.mono ?_; rintro e w1 ⟨s, sok, sv, rfl, h1, T1⟩)
  go_end0
  exact ⟨s, sok, sv, rfl, h1, T1⟩
set_option maxRecDepth 100000 in
set_option maxHeartbeats 4000000 in
theorem exec_7 (w : World) (gm gv gc pc gas : Nat) (ws : Nat → Wd4) (C Ls Lc : List Nat) (h : Run w gm gv gc pc 3 gas ws C Ls Lc) (hpc : pc < C.length) (hC : C.length ≤ 256) (ho : C.getD pc 0 = 7) :
    Calls Safg.prog 24 #[.pointer (some ⟨gm, 0, none⟩), .int .u8 7] w (AluPost 7 w gm gv gc pc gas ws C Ls Lc) := by
  have HO := opx_7 w gm gv gc pc gas ws C Ls Lc h hpc hC ho
  clear h
  go_enter Safg.func24, Safg.ntmps24
  go_wp2_with (go_at_call 75; refine HO.mono ?_; rintro e w1 ⟨s, sok, sv, rfl, h1, T1⟩)
  go_end0
  exact ⟨s, sok, sv, rfl, h1, T1⟩
set_option maxRecDepth 100000 in
set_option maxHeartbeats 4000000 in
theorem exec_8 (w : World) (gm gv gc pc gas : Nat) (ws : Nat → Wd4) (C Ls Lc : List Nat) (h : Run w gm gv gc pc 3 gas ws C Ls Lc) (hpc : pc < C.length) (hC : C.length ≤ 256) (ho : C.getD pc 0 = 8) :
    Calls Safg.prog 24 #[.pointer (some ⟨gm, 0, none⟩), .int .u8 8] w (AluPost 8 w gm gv gc pc gas ws C Ls Lc) := by
  have HO := opx_8 w gm gv gc pc gas ws C Ls Lc h hpc hC ho
  clear h
  go_enter Safg.func24, Safg.ntmps24
  go_wp2_with (go_at_call 75; refine HO.mono ?_; rintro e w1 ⟨s, sok, sv, rfl, h1, T1⟩)
  go_end0
  exact ⟨s, sok, sv, rfl, h1, T1⟩
set_option maxRecDepth 100000 in
set_option maxHeartbeats 4000000 in
theorem exec_9 (w : World) (gm gv gc pc gas : Nat) (ws : Nat → Wd4) (C Ls Lc : List Nat) (h : Run w gm gv gc pc 3 gas ws C Ls Lc) (hpc : pc < C.length) (hC : C.length ≤ 256) (ho : C.getD pc 0 = 9) :
    Calls Safg.prog 24 #[.pointer (some ⟨gm, 0, none⟩), .int .u8 9] w (AluPost 9 w gm gv gc pc gas ws C Ls Lc) := by
  have HO := opx_9 w gm gv gc pc gas ws C Ls Lc h hpc hC ho
  clear h
  go_enter Safg.func24, Safg.ntmps24
  go_wp2_with (go_at_call 75; refine HO.mono ?_; rintro e w1 ⟨s, sok, sv, rfl, h1, T1⟩)
  go_end0
  exact ⟨s, sok, sv, rfl, h1, T1⟩
set_option maxRecDepth 100000 in
set_option maxHeartbeats 4000000 in
theorem exec_10 (w : World) (gm gv gc pc gas : Nat) (ws : Nat → Wd4) (C Ls Lc : List Nat) (h : Run w gm gv gc pc 3 gas ws C Ls Lc) (hpc : pc < C.length) (hC : C.length ≤ 256) (ho : C.getD pc 0 = 10) :
    Calls Safg.prog 24 #[.pointer (some ⟨gm, 0, none⟩), .int .u8 10] w (AluPost 10 w gm gv gc pc gas ws C Ls Lc) := by
  have HO := opx_10 w gm gv gc pc gas ws C Ls Lc h hpc hC ho
  clear h
  go_enter Safg.func24, Safg.ntmps24
  go_wp2_with (go_at_call 75; refine HO.mono ?_; rintro e w1 ⟨s, sok, sv, rfl, h1, T1⟩)
  go_end0
  exact ⟨s, sok, sv, rfl, h1, T1⟩
set_option maxRecDepth 100000 in
set_option maxHeartbeats 4000000 in
theorem exec_11 (w : World) (gm gv gc pc gas : Nat) (ws : Nat → Wd4) (C Ls Lc : List Nat) (h : Run w gm gv gc pc 3 gas ws C Ls Lc) (hpc : pc < C.length) (hC : C.length ≤ 256) (ho : C.getD pc 0 = 11) :
    Calls Safg.prog 24 #[.pointer (some ⟨gm, 0, none⟩), .int .u8 11] w (AluPost 11 w gm gv gc pc gas ws C Ls Lc) := by
  have HO := opx_11 w gm gv gc pc gas ws C Ls Lc h hpc hC ho
  clear h
  go_enter Safg.func24, Safg.ntmps24
  go_wp2_with (go_at_call 75; refine HO.mono ?_; rintro e w1 ⟨s, sok, sv, rfl, h1, T1⟩)
  go_end0
  exact ⟨s, sok, sv, rfl, h1, T1⟩
end Go.Proofs.YgcsafGreat
