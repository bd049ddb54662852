/-
  The four steps of the law.
-/
import Derived.Test.YgcsafGreatStep3
import Derived.Test.YgcsafGreatPassX
import Derived.Test.YgcsafGreatEnter1
namespace Go.Proofs.YgcsafGreat
open Go.RowKit
set_option linter.unusedVariables false
set_option linter.unusedSimpArgs false

theorem push_admit (w : World) (gm gv gc pc sp gas : Nat) (ws : Nat → Wd4) (C Ls Lc : List Nat) (h : Run w gm gv gc pc sp gas ws C Ls Lc) (hs : sp < 3) (hg : gas < 18446744073709551616) (h3 : 3 ≤ gas) :
    Calls Safg.prog 23 #[.pointer (some ⟨gm, 0, none⟩), .int .u8 ((127 : Nat) : Int), .int .u8 ((0 : Nat) : Int), .int .u8 1, .int .u16 ((3 : Nat) : Int), .bool true] w (RunPost (.bool true) w gm gv gc pc sp (gas - 3) ws C Ls Lc) :=
  admit_any w gm gv gc pc sp gas (gas - 3) 127 0 3 ws C Ls Lc h (by omega) (by omega) (by omega) (by omega) fun w h => pass_flat w gm gv gc pc sp gas 127 3 ws C Ls Lc h (by omega) hg h3 flat_push rfl rfl rfl
theorem step_push_0 (w : World) (gm gv gc gas o : Nat) (ws : Nat → Wd4) (C Ls Lc : List Nat) (h : Run w gm gv gc 0 0 gas ws C Ls Lc) (hC : Code4 C o) (dC : D.Dig C) (hg : gas < 18446744073709551616) (h3 : 3 ≤ gas) :
    Calls Safg.prog 8 #[.pointer (some ⟨gm, 0, none⟩)] w (RunPost (.bool true) w gm gv gc 33 1 (gas - 3) (MF.lay ws 0 (wdOf ((C.drop 1).take 32))) C Ls Lc) := by
  refine (step_any w gm gv gc 0 0 gas (gas - 3) 127 0 3 ws C Ls Lc (fun w1 w' => Run w' gm gv gc 33 1 (gas - 3) (MF.lay ws 0 (wdOf ((C.drop 1).take 32))) C Ls Lc ∧ Turn [gm] w1 w') h (by rw [hC.len]; omega) (by rw [hC.len]; omega) hC.c0 info_127 (fun w h => push_admit w gm gv gc _ _ gas ws C Ls Lc h (by omega) hg h3) fun w h => exec_push w gm (fun e w' => Run w' gm gv gc 33 1 (gas - 3) (MF.lay ws 0 (wdOf ((C.drop 1).take 32))) C Ls Lc ∧ Turn [gm] w w') (opPush_0 w gm gv gc (gas - 3) ws C Ls Lc h hC.len dC hC.c0)).mono ?_
  rintro e w' ⟨rfl, w1, T1, h2, T2⟩
  exact ⟨rfl, h2, T1.trans T2⟩
theorem step_push_33 (w : World) (gm gv gc gas o : Nat) (ws : Nat → Wd4) (C Ls Lc : List Nat) (h : Run w gm gv gc 33 1 gas ws C Ls Lc) (hC : Code4 C o) (dC : D.Dig C) (hg : gas < 18446744073709551616) (h3 : 3 ≤ gas) :
    Calls Safg.prog 8 #[.pointer (some ⟨gm, 0, none⟩)] w (RunPost (.bool true) w gm gv gc 66 2 (gas - 3) (MF.lay ws 1 (wdOf ((C.drop 34).take 32))) C Ls Lc) := by
  refine (step_any w gm gv gc 33 1 gas (gas - 3) 127 0 3 ws C Ls Lc (fun w1 w' => Run w' gm gv gc 66 2 (gas - 3) (MF.lay ws 1 (wdOf ((C.drop 34).take 32))) C Ls Lc ∧ Turn [gm] w1 w') h (by rw [hC.len]; omega) (by rw [hC.len]; omega) hC.c1 info_127 (fun w h => push_admit w gm gv gc _ _ gas ws C Ls Lc h (by omega) hg h3) fun w h => exec_push w gm (fun e w' => Run w' gm gv gc 66 2 (gas - 3) (MF.lay ws 1 (wdOf ((C.drop 34).take 32))) C Ls Lc ∧ Turn [gm] w w') (opPush_33 w gm gv gc (gas - 3) ws C Ls Lc h hC.len dC hC.c1)).mono ?_
  rintro e w' ⟨rfl, w1, T1, h2, T2⟩
  exact ⟨rfl, h2, T1.trans T2⟩
theorem step_push_66 (w : World) (gm gv gc gas o : Nat) (ws : Nat → Wd4) (C Ls Lc : List Nat) (h : Run w gm gv gc 66 2 gas ws C Ls Lc) (hC : Code4 C o) (dC : D.Dig C) (hg : gas < 18446744073709551616) (h3 : 3 ≤ gas) :
    Calls Safg.prog 8 #[.pointer (some ⟨gm, 0, none⟩)] w (RunPost (.bool true) w gm gv gc 99 3 (gas - 3) (MF.lay ws 2 (wdOf ((C.drop 67).take 32))) C Ls Lc) := by
  refine (step_any w gm gv gc 66 2 gas (gas - 3) 127 0 3 ws C Ls Lc (fun w1 w' => Run w' gm gv gc 99 3 (gas - 3) (MF.lay ws 2 (wdOf ((C.drop 67).take 32))) C Ls Lc ∧ Turn [gm] w1 w') h (by rw [hC.len]; omega) (by rw [hC.len]; omega) hC.c2 info_127 (fun w h => push_admit w gm gv gc _ _ gas ws C Ls Lc h (by omega) hg h3) fun w h => exec_push w gm (fun e w' => Run w' gm gv gc 99 3 (gas - 3) (MF.lay ws 2 (wdOf ((C.drop 67).take 32))) C Ls Lc ∧ Turn [gm] w w') (opPush_66 w gm gv gc (gas - 3) ws C Ls Lc h hC.len dC hC.c2)).mono ?_
  rintro e w' ⟨rfl, w1, T1, h2, T2⟩
  exact ⟨rfl, h2, T1.trans T2⟩
theorem exec_any (w : World) (gm gv gc pc gas o : Nat) (ws : Nat → Wd4) (C Ls Lc : List Nat) (ha : AluOp o) (h : Run w gm gv gc pc 3 gas ws C Ls Lc) (hpc : pc < C.length) (hC : C.length ≤ 256) (ho : C.getD pc 0 = o) :
    Calls Safg.prog 24 #[.pointer (some ⟨gm, 0, none⟩), .int .u8 (o : Int)] w (AluPost o w gm gv gc pc gas ws C Ls Lc) := by
  rcases ha.cases with rfl | rfl | rfl | rfl | rfl | rfl | rfl | rfl | rfl | rfl | rfl | rfl | rfl | rfl | rfl | rfl | rfl | rfl | rfl | rfl | rfl | rfl | rfl | rfl | rfl
  · exact exec_1 w gm gv gc pc gas ws C Ls Lc h hpc hC ho
  · exact exec_2 w gm gv gc pc gas ws C Ls Lc h hpc hC ho
  · exact exec_3 w gm gv gc pc gas ws C Ls Lc h hpc hC ho
  · exact exec_4 w gm gv gc pc gas ws C Ls Lc h hpc hC ho
  · exact exec_5 w gm gv gc pc gas ws C Ls Lc h hpc hC ho
  · exact exec_6 w gm gv gc pc gas ws C Ls Lc h hpc hC ho
  · exact exec_7 w gm gv gc pc gas ws C Ls Lc h hpc hC ho
  · exact exec_8 w gm gv gc pc gas ws C Ls Lc h hpc hC ho
  · exact exec_9 w gm gv gc pc gas ws C Ls Lc h hpc hC ho
  · exact exec_10 w gm gv gc pc gas ws C Ls Lc h hpc hC ho
  · exact exec_11 w gm gv gc pc gas ws C Ls Lc h hpc hC ho
  · exact exec_16 w gm gv gc pc gas ws C Ls Lc h hpc hC ho
  · exact exec_17 w gm gv gc pc gas ws C Ls Lc h hpc hC ho
  · exact exec_18 w gm gv gc pc gas ws C Ls Lc h hpc hC ho
  · exact exec_19 w gm gv gc pc gas ws C Ls Lc h hpc hC ho
  · exact exec_20 w gm gv gc pc gas ws C Ls Lc h hpc hC ho
  · exact exec_21 w gm gv gc pc gas ws C Ls Lc h hpc hC ho
  · exact exec_22 w gm gv gc pc gas ws C Ls Lc h hpc hC ho
  · exact exec_23 w gm gv gc pc gas ws C Ls Lc h hpc hC ho
  · exact exec_24 w gm gv gc pc gas ws C Ls Lc h hpc hC ho
  · exact exec_25 w gm gv gc pc gas ws C Ls Lc h hpc hC ho
  · exact exec_26 w gm gv gc pc gas ws C Ls Lc h hpc hC ho
  · exact exec_27 w gm gv gc pc gas ws C Ls Lc h hpc hC ho
  · exact exec_28 w gm gv gc pc gas ws C Ls Lc h hpc hC ho
  · exact exec_29 w gm gv gc pc gas ws C Ls Lc h hpc hC ho
/-- What an arithmetic instruction costs; m bytes are in use in the second operand. -/
def costN (o m : Nat) : Nat := if o = 10 then 10 + 50 * m else gasN o
theorem costN_le {o m : Nat} (hm : m ≤ 32) : costN o m ≤ 1610 := by
  unfold costN gasN
  repeat' split
  all_goals omega
/-- What the fourth step leaves. -/
def StepPost (o m : Nat) (w : World) (gm gv gc gas : Nat) (ws : Nat → Wd4) (C Ls Lc : List Nat) (e : Ending) (w' : World) : Prop :=
  ∃ s : Wd4, s.Ok ∧ s.val = aluW o (ws 2).val (ws 1).val (ws 0).val ∧ e = .returned (.bool true) ∧ Run w' gm gv gc 100 (3 - takesN o + 1) (gas - costN o m) (MF.lay ws (3 - takesN o) s) C Ls Lc ∧ Turn [gm] w w'
theorem step_alu (w : World) (gm gv gc gas o m : Nat) (ws : Nat → Wd4) (C Ls Lc : List Nat) (ha : AluOp o) (h : Run w gm gv gc 99 3 gas ws C Ls Lc) (hC : Code4 C o) (hm : Bytes (ws 1).val m) (h32 : m ≤ 32) (hg : gas < 18446744073709551616) (h3 : 1610 ≤ gas) :
    Calls Safg.prog 8 #[.pointer (some ⟨gm, 0, none⟩)] w (StepPost o m w gm gv gc gas ws C Ls Lc) := by
  have hc := costN_le (o := o) h32
  have htk : takesN o ≤ 3 ∧ 1 ≤ takesN o := by
    unfold takesN
    split
    · omega
    · split <;> omega
  have HP : ∀ w, Run w gm gv gc 99 3 gas ws C Ls Lc → Calls Safg.prog 74 #[.pointer (some ⟨gm, 0, none⟩), .int .u8 (o : Int), .int .u16 (gasN o : Int)] w (RunPost (.bool true) w gm gv gc 99 3 (gas - costN o m) ws C Ls Lc) := by
    intro w h
    by_cases e : o = 10
    · subst e
      exact pass_exp w gm gv gc 99 gas m ws C Ls Lc h hm h32 hg (by have : costN 10 m = 10 + 50 * m := rfl; omega)
    · have he : costN o m = gasN o := if_neg e
      rw [he]
      rw [he] at hc
      have hl : o < 32 := by unfold AluOp at ha; omega
      refine pass_flat w gm gv gc 99 3 gas o (gasN o) ws C Ls Lc h (by omega) hg (by omega) (fun w => flat_low w o hl e) ?_ ?_ ?_
      · simp; omega
      · simp; omega
      · simp; omega
  refine (step_any w gm gv gc 99 3 gas (gas - costN o m) o (takesN o) (gasN o) ws C Ls Lc (fun w1 w' => ∃ s : Wd4, s.Ok ∧ s.val = aluW o (ws 2).val (ws 1).val (ws 0).val ∧ Run w' gm gv gc 100 (3 - takesN o + 1) (gas - costN o m) (MF.lay ws (3 - takesN o) s) C Ls Lc ∧ Turn [gm] w1 w') h (by rw [hC.len]; omega) (by rw [hC.len]; omega) hC.c3 (fun w => info_any w o ha) (fun w h => admit_any w gm gv gc 99 3 gas (gas - costN o m) o (takesN o) (gasN o) ws C Ls Lc h (by omega) htk.1 (by omega) (by omega) HP) fun w h => (exec_any w gm gv gc 99 (gas - costN o m) o ws C Ls Lc ha h (by rw [hC.len]; omega) (by rw [hC.len]; omega) hC.c3).mono ?_).mono ?_
  · rintro e w' ⟨s, h1, h2, rfl, h4, h5⟩
    exact ⟨rfl, s, h1, h2, h4, h5⟩
  · rintro e w' ⟨rfl, w1, T1, s, h1, h2, h4, h5⟩
    exact ⟨s, h1, h2, rfl, h4, T1.trans h5⟩
end Go.Proofs.YgcsafGreat
