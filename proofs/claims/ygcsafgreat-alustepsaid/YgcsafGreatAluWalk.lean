/-
  law.AluStep (3): the walk.
-/
import Derived.Test.YgcsafGreatMachOn
import Derived.Test.YgcsafGreatStep4
import Derived.Test.YgcsafGreatView1
import Derived.Test.YgcsafGreatView2
import Derived.Test.YgcsafGreatHold_1
import Derived.Test.YgcsafGreatHold_2
import Derived.Test.YgcsafGreatHold_3
import Derived.Test.YgcsafGreatHold_x
namespace Go.Proofs.YgcsafGreat
open Go.RowKit
set_option linter.unusedVariables false
set_option linter.unusedSimpArgs false
attribute [local irreducible] beL wdOf Wd4.val aluW

theorem view_any (w : World) (gm gv gc pc sp gas : Nat) (ws : Nat → Wd4) (C : List Nat) (h : Run w gm gv gc pc sp gas ws C (adr 1) (adr 240)) (hs : sp = 1 ∨ sp = 2 ∨ sp = 3) (hpc : pc < 65536) (hg : gas < 18446744073709551616) :
    Calls Safg.prog 9 #[.pointer (some ⟨gm, 0, none⟩)] w (ViewPost pc gas sp ws w) := by
  rcases hs with rfl | rfl | rfl
  · exact view_1 w gm gv gc pc gas ws C h hpc hg
  · exact view_2 w gm gv gc pc gas ws C h hpc hg
  · exact view_3 w gm gv gc pc gas ws C h hpc hg
theorem takes_cases (o : Nat) : takesN o = 1 ∨ takesN o = 2 ∨ takesN o = 3 := by
  unfold takesN
  split
  · exact .inr (.inr rfl)
  · split
    · exact .inl rfl
    · exact .inr (.inl rfl)
theorem hold_any (w : World) (o : Nat) (ho : AluOp o) (A B C : List Nat) (lA : A.length = 32) (lB : B.length = 32) (lC : C.length = 32) (dA : D.Dig A) (dB : D.Dig B) (dC : D.Dig C) (gB gS gas m : Nat) (s : Wd4) (sok : s.Ok) (sv : s.val = aluW o (wdOf A).val (wdOf B).val (wdOf C).val) (ws : Nat → Wd4) (hm : Bytes (wdOf B).val m) (h32 : m ≤ 32) (hg : gas < 18446744073709551616) (hgm : 1610 ≤ gas)
    (sB : StB w gB 3 3 ws) (sS : StB w gS (3 - takesN o + 1) (3 - takesN o + 1) (MF.lay ws (3 - takesN o) s)) :
    Calls Safg.prog 10 #[.int .u8 (o : Int), arrV A, arrV B, arrV C, .agg (vL 99 gas (.slice (some ⟨gB, 0, none⟩) 3 3)).toArray, .agg (vL 100 (gas - costN o m) (.slice (some ⟨gS, 0, none⟩) (3 - takesN o + 1) (3 - takesN o + 1))).toArray] w fun e w' => e = .returned (.bool true) ∧ Below w.heap.size w w' := by
  have ne10 : ∀ n, takesN o = n → n ≠ 2 → o ≠ 10 := fun n h1 h2 e => by rw [e] at h1; exact h2 h1.symm
  rcases takes_cases o with h | h | h
  · have hne := ne10 1 h (by omega)
    rw [h] at sS
    rw [h]
    exact hold_1 w o ho A B C lA lB lC dA dB dC gB gS gas m s sok sv ws hm h32 hg hgm sB sS h hne
  · rw [h] at sS
    rw [h]
    by_cases e : o = 10
    · exact hold_x w o ho A B C lA lB lC dA dB dC gB gS gas m s sok sv ws hm h32 hg hgm sB sS h e
    · exact hold_2 w o ho A B C lA lB lC dA dB dC gB gS gas m s sok sv ws hm h32 hg hgm sB sS h e
  · have hne := ne10 3 h (by omega)
    rw [h] at sS
    rw [h]
    exact hold_3 w o ho A B C lA lB lC dA dB dC gB gS gas m s sok sv ws hm h32 hg hgm sB sS h hne
/-- Two may come up, the second by a law on 'wpList'. -/
theorem wpAnyH_twoL {P : Program} {ops : Array Oper} {Q : Exit → Act → World → Prop} {md : Region.Mode} {S : World → Prop} (i j : Nat) {o o' : Oper} {r r' : List Oper} {fuel : Nat} {listed : Array Bool} {a : Act} {w : World} (hr : Region.ready md ops listed = [i, j]) (ho : ops.toList.drop i = o :: r) (ho' : ops.toList.drop j = o' :: r')
    (hw : o.guard = none) (hw' : o'.guard = none) (h : Oper.wp P o a w (fun a' w' => S w' ∧ wpAnyH P md ops Q S fuel (listed.setIfInBounds i true) a' w') Q) (h' : wpList P ops (backTo P md ops Q S fuel (listed.setIfInBounds j true)) [o'] a w) : wpAnyH P md ops Q S (fuel + 1) listed a w := by
  refine wpAnyH_all hr (by simp) fun k hk => ?_
  rcases (by simpa using hk : k = i ∨ k = j) with rfl | rfl
  · unfold Go.wpOp
    simp only [op_at ho, wanted_plain hw, if_true]
    exact .inl h
  · unfold Go.wpOp
    simp only [op_at ho', wanted_plain hw', if_true]
    unfold wpList at h'
    simp only [wanted_plain hw', if_true] at h'
    rcases h' with h | ⟨h1, a', w', h2⟩
    · exact .inl (wp_swapQ (fun c a w h => h) (fun ⟨a', w', h⟩ => ⟨a', w', h⟩) h)
    · exact .inr ⟨h1, a', w', h2⟩
/-- Ten numbers are made on the way. -/
theorem wpAnyH_to10 {P : Program} {md : Region.Mode} {ops : Array Oper} {Q : Exit → Act → World → Prop} {S : World → Prop} (A : Nat → Nat → Nat → Nat → Nat → Nat → Nat → Nat → Nat → Nat → Act) (F : Nat → World → Prop) {fuel : Nat} {listed : Array Bool} {a : Act} {w : World}
    (h : wpAnyH P md ops (NormQ fun a w => ∃ x1 x2 x3 x4 x5 x6 x7 x8 x9 g, a = A x1 x2 x3 x4 x5 x6 x7 x8 x9 g ∧ F g w) S fuel listed a w) (hn : ∀ x1 x2 x3 x4 x5 x6 x7 x8 x9 g w, F g w → Q .normal (A x1 x2 x3 x4 x5 x6 x7 x8 x9 g) w) : wpAnyH P md ops Q S fuel listed a w :=
  wpAnyH_swapQ (fun a w ⟨x1, x2, x3, x4, x5, x6, x7, x8, x9, g, e, hf⟩ => by rw [e]; exact hn x1 x2 x3 x4 x5 x6 x7 x8 x9 g w hf) (fun c a w h => absurd h id) (fun ⟨a, w, h⟩ => absurd h id) _ _ _ _ h
/-- The law's code. -/
def codeL (A B C : List Nat) (o : Nat) : List Nat := (127 :: C) ++ (127 :: B) ++ (127 :: A) ++ [o]
theorem codeL_eq (A B C : List Nat) (o : Nat) : codeL A B C o = 127 :: (C ++ (127 :: (B ++ (127 :: (A ++ [o]))))) := by simp [codeL]
section
variable {A B C : List Nat} {o : Nat}
theorem getD_cons_append {X Y : List Nat} {n j : Nat} (h : X.length = n) : (X ++ Y).getD (n + j) 0 = Y.getD j 0 := by
  rw [List.getD_eq_getElem?_getD, List.getD_eq_getElem?_getD, List.getElem?_append_right (by omega), h, Nat.add_sub_cancel_left]
theorem codeL_ok (lA : A.length = 32) (lB : B.length = 32) (lC : C.length = 32) (ho : o < 91) : Code4 (codeL A B C o) o := by
  rw [codeL_eq]
  refine ⟨by simp [lA, lB, lC], rfl, ?_, ?_, ?_, ho⟩
  · show (C ++ _).getD (32 + 0) 0 = 127
    rw [getD_cons_append lC]; rfl
  · show (C ++ _).getD (32 + 33) 0 = 127
    rw [getD_cons_append lC]
    show (B ++ _).getD (32 + 0) 0 = 127
    rw [getD_cons_append lB]; rfl
  · show (C ++ _).getD (32 + 66) 0 = o
    rw [getD_cons_append lC]
    show (B ++ _).getD (32 + 33) 0 = o
    rw [getD_cons_append lB]
    show (A ++ _).getD (32 + 0) 0 = o
    rw [getD_cons_append lA]; rfl
theorem codeL_c (lC : C.length = 32) : ((codeL A B C o).drop 1).take 32 = C := by
  rw [codeL_eq]
  show (C ++ _).take 32 = C
  rw [List.take_append_of_le_length (by omega), List.take_of_length_le (by omega)]
theorem drop_app {X Y : List Nat} {n j : Nat} (h : X.length = n) : (X ++ Y).drop (n + j) = Y.drop j := by
  rw [List.drop_append, h, Nat.add_sub_cancel_left, List.drop_eq_nil_of_le (by omega), List.nil_append]
theorem codeL_b (lB : B.length = 32) (lC : C.length = 32) : ((codeL A B C o).drop 34).take 32 = B := by
  rw [codeL_eq]
  show ((C ++ _).drop (32 + 1)).take 32 = B
  rw [drop_app lC]
  show (B ++ _).take 32 = B
  rw [List.take_append_of_le_length (by omega), List.take_of_length_le (by omega)]
theorem codeL_a (lA : A.length = 32) (lB : B.length = 32) (lC : C.length = 32) : ((codeL A B C o).drop 67).take 32 = A := by
  rw [codeL_eq]
  show ((C ++ _).drop (32 + 34)).take 32 = A
  rw [drop_app lC]
  show ((B ++ _).drop (32 + 1)).take 32 = A
  rw [drop_app lB]
  show (A ++ _).take 32 = A
  rw [List.take_append_of_le_length (by omega), List.take_of_length_le (by omega)]
theorem codeL_dig (dA : D.Dig A) (dB : D.Dig B) (dC : D.Dig C) (ho : o < 256) : D.Dig (codeL A B C o) :=
  (((D.Dig.cons (by omega) dC).append (D.Dig.cons (by omega) dB)).append (D.Dig.cons (by omega) dA)).append (D.Dig.cons ho D.Dig.nil)
end
set_option maxRecDepth 100000 in
set_option maxHeartbeats 16000000 in
theorem walk_z (w : World) (o : Nat) (ho : o = 0) (A B C : List Nat) (lA : A.length = 32) (lB : B.length = 32) (lC : C.length = 32) (dA : D.Dig A) (dB : D.Dig B) (dC : D.Dig C) :
    Calls Safg.prog 3 #[.int .u8 (o : Int), arrV A, arrV B, arrV C] w fun e w' => e = .returned (.bool true) ∧ Below w.heap.size w w' := by
  have t1 : decide ((1 : Int) ≤ (o : Int)) = false := decide_eq_false (by omega)
  have t3 : decide ((16 : Int) ≤ (o : Int)) = false := decide_eq_false (by omega)
  clear ho
  go_enter Safg.func3, Safg.ntmps3
  go_wp2_with (first | (refine wpList_box_arr rfl 22 (.tmp 1) rfl A rfl ?_; intro w1 g5 hg5 o5 b1) | (refine wpList_box_arr rfl 22 (.tmp 2) rfl B rfl ?_; intro w2 g6 hg6 o6 b2) | (refine wpList_box_arr rfl 22 (.tmp 3) rfl C rfl ?_; intro w3 g7 hg7 o7 b3))
  go_ret
  exact ⟨rfl, (b1.trans (b2.mono b1.size)).trans (b3.mono (Nat.le_trans b1.size b2.size))⟩
set_option maxRecDepth 100000 in
set_option maxHeartbeats 16000000 in
theorem walk_m (w : World) (o : Nat) (ho : 12 ≤ o ∧ o ≤ 15) (A B C : List Nat) (lA : A.length = 32) (lB : B.length = 32) (lC : C.length = 32) (dA : D.Dig A) (dB : D.Dig B) (dC : D.Dig C) :
    Calls Safg.prog 3 #[.int .u8 (o : Int), arrV A, arrV B, arrV C] w fun e w' => e = .returned (.bool true) ∧ Below w.heap.size w w' := by
  have t1 : decide ((1 : Int) ≤ (o : Int)) = true := decide_eq_true (by omega)
  have t2 : decide ((o : Int) ≤ 11) = false := decide_eq_false (by omega)
  have t3 : decide ((16 : Int) ≤ (o : Int)) = false := decide_eq_false (by omega)
  go_enter Safg.func3, Safg.ntmps3
  go_wp2_with (first | (refine wpList_box_arr rfl 22 (.tmp 1) rfl A rfl ?_; intro w1 g5 hg5 o5 b1) | (refine wpList_box_arr rfl 22 (.tmp 2) rfl B rfl ?_; intro w2 g6 hg6 o6 b2) | (refine wpList_box_arr rfl 22 (.tmp 3) rfl C rfl ?_; intro w3 g7 hg7 o7 b3))
  go_ret
  exact ⟨rfl, (b1.trans (b2.mono b1.size)).trans (b3.mono (Nat.le_trans b1.size b2.size))⟩
set_option maxRecDepth 100000 in
set_option maxHeartbeats 16000000 in
theorem walk_h (w : World) (o : Nat) (ho : 30 ≤ o) (A B C : List Nat) (lA : A.length = 32) (lB : B.length = 32) (lC : C.length = 32) (dA : D.Dig A) (dB : D.Dig B) (dC : D.Dig C) :
    Calls Safg.prog 3 #[.int .u8 (o : Int), arrV A, arrV B, arrV C] w fun e w' => e = .returned (.bool true) ∧ Below w.heap.size w w' := by
  have t1 : decide ((1 : Int) ≤ (o : Int)) = true := decide_eq_true (by omega)
  have t2 : decide ((o : Int) ≤ 11) = false := decide_eq_false (by omega)
  have t3 : decide ((16 : Int) ≤ (o : Int)) = true := decide_eq_true (by omega)
  have t4 : decide ((o : Int) ≤ 29) = false := decide_eq_false (by omega)
  go_enter Safg.func3, Safg.ntmps3
  go_wp2_with (first | (refine wpList_box_arr rfl 22 (.tmp 1) rfl A rfl ?_; intro w1 g5 hg5 o5 b1) | (refine wpList_box_arr rfl 22 (.tmp 2) rfl B rfl ?_; intro w2 g6 hg6 o6 b2) | (refine wpList_box_arr rfl 22 (.tmp 3) rfl C rfl ?_; intro w3 g7 hg7 o7 b3))
  go_ret
  exact ⟨rfl, (b1.trans (b2.mono b1.size)).trans (b3.mono (Nat.le_trans b1.size b2.size))⟩
set_option maxRecDepth 100000 in
set_option maxHeartbeats 16000000 in
theorem walk_1 (w : World) (o : Nat) (ho : 1 ≤ o ∧ o ≤ 11) (A B C : List Nat) (lA : A.length = 32) (lB : B.length = 32) (lC : C.length = 32) (dA : D.Dig A) (dB : D.Dig B) (dC : D.Dig C) :
    Calls Safg.prog 3 #[.int .u8 (o : Int), arrV A, arrV B, arrV C] w fun e w' => e = .returned (.bool true) ∧ Below w.heap.size w w' := by
  have ha : AluOp o := .inl ho
  have ho91 : o < 91 := by unfold AluOp at ha; omega
  have t1 : decide ((1 : Int) ≤ (o : Int)) = true := decide_eq_true (by omega)
  have t2 : decide ((o : Int) ≤ 11) = true := decide_eq_true (by omega)
  obtain ⟨fs, u36⟩ : ∃ fs, Safg.prog.underlying 36 = some (.struct fs) := ⟨_, rfl⟩
  have hC4 := codeL_ok (A := A) (B := B) (C := C) (o := o) lA lB lC ho91
  have dCC := codeL_dig (o := o) dA dB dC (by omega)
  have hLC := codeL_c (A := A) (B := B) (o := o) lC
  have hLB := codeL_b (A := A) (o := o) lB lC
  have hLA := codeL_a (o := o) lA lB lC
  obtain ⟨CC, hCC⟩ : ∃ L, codeL A B C o = L := ⟨_, rfl⟩
  have HCC : Hid (codeL A B C o = CC) := hCC
  rw [hCC] at hC4 dCC hLC hLB hLA
  clear hCC
  go_enter Safg.func3, Safg.ntmps3
  go_upto_region 3 with (first | (refine wpList_box_arr rfl 22 (.tmp 1) rfl A rfl ?_; intro w1 g5 hg5 o5 b1) | (refine wpList_box_arr rfl 22 (.tmp 2) rfl B rfl ?_; intro w2 g6 hg6 o6 b2) | (refine wpList_box_arr rfl 22 (.tmp 3) rfl C rfl ?_; intro w3 g7 hg7 o7 b3))
  have s1 := b1.size; have s2 := b2.size; have s3 := b3.size
  have o5 := (o5.below b2 o5.lt).below b3 (Nat.lt_of_lt_of_le o5.lt s2)
  have o6 := o6.below b3 o6.lt
  have B3 : Below w.heap.size w w3 := (b1.trans (b2.mono s1)).trans (b3.mono (by omega))
  clear b1 b2 b3 s1 s2 s3
  have o5 := (Same.drew w3).own o5
  have o6 := (Same.drew w3).own o6
  have o7 := (Same.drew w3).own o7
  have B3 := B3.trans ((Turn.drew_below w3).mono B3.size)
  refine wp_region_held_drew (S := fun w' => Own w' g5 A ∧ Own w' g6 B ∧ Own w' g7 C) (by kernel_rfl) ⟨o5, o6, o7⟩ (fun hHeld => ?_)
  clear o5 o6 o7
  generalize w3.drew = w3 at *
  apply wpAnyH_to10 (F := fun gm w' => (w.heap.size ≤ gm ∧ g5 ∉ [gm] ∧ g6 ∉ [gm] ∧ g7 ∉ [gm]) ∧ (∃ gv gk, Run w' gm gv gk 0 0 179000 (fun _ => Wd4.zero) CC (adr 1) (adr 240)) ∧ (Own w' g5 A ∧ Own w' g6 B ∧ Own w' g7 C) ∧ Below w.heap.size w w')
  case h =>
    refine wpAnyH_take' (i := 0) (d := 28) rfl rfl (by kernel_rfl) (by kernel_rfl) (by kernel_rfl) (fun _ _ _ h => h) (yieldsIf_load_mid (by rfl) 22 _ rfl g7 0 rfl (cellsL C) _ (fun w hw => hw.2.2.range) Safg.underlying22 rfl (by rw [cellsL_length, lC]; exact Safg.size22)) hHeld ?_
    try simp only [Act.put, List.setIfInBounds_toArray, List.set_cons_zero, List.set_cons_succ]
    refine wpAnyH_take' (i := 2) (d := 30) rfl rfl (by kernel_rfl) (by kernel_rfl) (by kernel_rfl) (fun _ _ _ h => h) (yieldsIf_load_mid (by rfl) 22 _ rfl g6 0 rfl (cellsL B) _ (fun w hw => hw.2.1.range) Safg.underlying22 rfl (by rw [cellsL_length, lB]; exact Safg.size22)) hHeld ?_
    try simp only [Act.put, List.setIfInBounds_toArray, List.set_cons_zero, List.set_cons_succ]
    refine wpAnyH_take' (i := 4) (d := 32) rfl rfl (by kernel_rfl) (by kernel_rfl) (by kernel_rfl) (fun _ _ _ h => h) (yieldsIf_load_mid (by rfl) 22 _ rfl g5 0 rfl (cellsL A) _ (fun w hw => hw.1.range) Safg.underlying22 rfl (by rw [cellsL_length, lA]; exact Safg.size22)) hHeld ?_
    try simp only [Act.put, List.setIfInBounds_toArray, List.set_cons_zero, List.set_cons_succ]
    refine wpAnyH_take' (i := 6) (d := 34) rfl rfl (by kernel_rfl) (by kernel_rfl) (by kernel_rfl) (fun _ _ _ h => h) (Or.inl ⟨by rfl, fun w hw => by go_simp; try rfl⟩) hHeld ?_
    try simp only [Act.put, List.setIfInBounds_toArray, List.set_cons_zero, List.set_cons_succ]
    refine wpAnyH_twoL 1 7 (by kernel_rfl) rfl rfl rfl rfl ?_ ?_
    · refine wp_callR Safg.func7 (by kernel_rfl) (by kernel_rfl) (push32_any w3 C lC dC) rfl rfl ?_
      rintro e w4 ⟨p1, c1, rfl, hp1, r1, bx⟩
      have hHeld : Own w4 g5 A ∧ Own w4 g6 B ∧ Own w4 g7 C := ⟨hHeld.1.below bx hHeld.1.lt, hHeld.2.1.below bx hHeld.2.1.lt, hHeld.2.2.below bx hHeld.2.2.lt⟩
      have B3 := B3.trans (bx.mono B3.size)
      clear bx
      refine ⟨_, rfl, hHeld, ?_⟩
      try simp only [Act.put, List.setIfInBounds_toArray, List.set_cons_zero, List.set_cons_succ]
      refine wpAnyH_twoL 3 7 (by kernel_rfl) rfl rfl rfl rfl ?_ ?_
      · refine wp_callR Safg.func7 (by kernel_rfl) (by kernel_rfl) (push32_any w4 B lB dB) rfl rfl ?_
        rintro e w5 ⟨p2, c2, rfl, hp2, r2, bx⟩
        have hHeld : Own w5 g5 A ∧ Own w5 g6 B ∧ Own w5 g7 C := ⟨hHeld.1.below bx hHeld.1.lt, hHeld.2.1.below bx hHeld.2.1.lt, hHeld.2.2.below bx hHeld.2.2.lt⟩
        have r1 := r1.below bx r1.lt
        have B3 := B3.trans (bx.mono B3.size)
        clear bx
        refine ⟨_, rfl, hHeld, ?_⟩
        try simp only [Act.put, List.setIfInBounds_toArray, List.set_cons_zero, List.set_cons_succ]
        refine wpAnyH_twoL 5 7 (by kernel_rfl) rfl rfl rfl rfl ?_ ?_
        · refine wp_callR Safg.func7 (by kernel_rfl) (by kernel_rfl) (push32_any w5 A lA dA) rfl rfl ?_
          rintro e w6 ⟨p3, c3, rfl, hp3, r3, bx⟩
          have hHeld : Own w6 g5 A ∧ Own w6 g6 B ∧ Own w6 g7 C := ⟨hHeld.1.below bx hHeld.1.lt, hHeld.2.1.below bx hHeld.2.1.lt, hHeld.2.2.below bx hHeld.2.2.lt⟩
          have r1 := r1.below bx r1.lt
          have r2 := r2.below bx r2.lt
          have B3 := B3.trans (bx.mono B3.size)
          clear bx
          refine ⟨_, rfl, hHeld, ?_⟩
          try simp only [Act.put, List.setIfInBounds_toArray, List.set_cons_zero, List.set_cons_succ]
          refine wpAnyH_list 7 (by kernel_rfl) rfl rfl ?_
          refine wpList_slice1v rfl 26 5 (.tmp 34) rfl (.int .u8 (o : Int)) (cellsL [o]) rfl rfl Safg.underlying26 Safg.size5 Safg.zcells5 (by show 0 < 1; omega) (by show 1 ≤ 65536; omega) ?_
          intro w7 go hgo ko bx
          have hHeld : Own w7 g5 A ∧ Own w7 g6 B ∧ Own w7 g7 C := ⟨hHeld.1.below bx hHeld.1.lt, hHeld.2.1.below bx hHeld.2.1.lt, hHeld.2.2.below bx hHeld.2.2.lt⟩
          have r1 := r1.below bx r1.lt
          have r2 := r2.below bx r2.lt
          have r3 := r3.below bx r3.lt
          have B3 := B3.trans (bx.mono B3.size)
          clear bx
          refine backTo.nil hHeld ?_
          try simp only [Act.put, List.setIfInBounds_toArray, List.set_cons_zero, List.set_cons_succ]
          have oko : Own w7 go [o] := ⟨ko.lt, fun j hj => ko.get (by rw [cellsL, List.getElem?_map, List.getD_eq_getElem?_getD, List.getElem?_eq_getElem hj]; rfl), ko.free⟩
          have hj := join_any w7 ⟨p1, 0, none⟩ ⟨p2, 0, none⟩ ⟨p3, 0, none⟩ ⟨go, 0, none⟩ c1 c2 c3 1 (127 :: C) (127 :: B) (127 :: A) [o] (by have := r1.rd (D.Dig.cons (by omega) dC); simpa [lC] using this) (by have := r2.rd (D.Dig.cons (by omega) dB); simpa [lB] using this) (by have := r3.rd (D.Dig.cons (by omega) dA); simpa [lA] using this) (oko.rd (D.Dig.cons (by omega) D.Dig.nil))
          refine wpAnyH_one 8 (by kernel_rfl) rfl rfl ?_
          refine wp_callR Safg.func6 (by kernel_rfl) (by kernel_rfl) hj rfl rfl ?_
          rintro e w20 ⟨gj, cj, rfl, hgj, oj, bx⟩
          have hHeld : Own w20 g5 A ∧ Own w20 g6 B ∧ Own w20 g7 C := ⟨hHeld.1.below bx hHeld.1.lt, hHeld.2.1.below bx hHeld.2.1.lt, hHeld.2.2.below bx hHeld.2.2.lt⟩
          have B3 := B3.trans (bx.mono B3.size)
          clear bx
          have oj : Own w20 gj (codeL A B C o) := oj
          rw [HCC.out] at oj
          refine ⟨_, rfl, hHeld, ?_⟩
          try simp only [Act.put, List.setIfInBounds_toArray, List.set_cons_zero, List.set_cons_succ]
          refine wpAnyH_one 9 (by kernel_rfl) rfl rfl ?_
          refine wp_callR Safg.func5 (by kernel_rfl) (by kernel_rfl) (machOn_any w20 gj cj o CC oj hC4 dCC) rfl rfl ?_
          rintro e w21 ⟨gm, gv, gk, rfl, hgm, R21, bx⟩
          have fgm : w.heap.size ≤ gm ∧ g5 ∉ [gm] ∧ g6 ∉ [gm] ∧ g7 ∉ [gm] := by have := hHeld.1.lt; have := hHeld.2.1.lt; have := hHeld.2.2.lt; have := B3.size; refine ⟨by omega, by simp; omega, by simp; omega, by simp; omega⟩
          have hHeld : Own w21 g5 A ∧ Own w21 g6 B ∧ Own w21 g7 C := ⟨hHeld.1.below bx hHeld.1.lt, hHeld.2.1.below bx hHeld.2.1.lt, hHeld.2.2.below bx hHeld.2.2.lt⟩
          have B3 := B3.trans (bx.mono B3.size)
          clear bx
          refine ⟨_, rfl, hHeld, ?_⟩
          try simp only [Act.put, List.setIfInBounds_toArray, List.set_cons_zero, List.set_cons_succ]
          refine wpAnyH_take' (i := 10) (d := 27) rfl rfl (by kernel_rfl) (by kernel_rfl) (by kernel_rfl) (fun _ _ _ h => h) (Or.inl ⟨by rfl, fun w hw => by go_simp; try rfl⟩) hHeld ?_
          try simp only [Act.put, List.setIfInBounds_toArray, List.set_cons_zero, List.set_cons_succ]
          refine wpAnyH_take' (i := 11) (d := 38) rfl rfl (by kernel_rfl) (by kernel_rfl) (by kernel_rfl) (fun _ _ _ h => h) (Or.inl ⟨by rfl, fun w hw => by go_simp; try rfl⟩) hHeld ?_
          try simp only [Act.put, List.setIfInBounds_toArray, List.set_cons_zero, List.set_cons_succ]
          refine wpAnyH_take' (i := 12) (d := 39) rfl rfl (by kernel_rfl) (by kernel_rfl) (by kernel_rfl) (fun _ _ _ h => h) (Or.inl ⟨by rfl, fun w hw => by go_simp; try rfl⟩) hHeld ?_
          try simp only [Act.put, List.setIfInBounds_toArray, List.set_cons_zero, List.set_cons_succ]
          refine wpAnyH_take' (i := 13) (d := 9) rfl rfl (by kernel_rfl) (by kernel_rfl) (by kernel_rfl) (fun _ _ _ h => h) (Or.inl ⟨by rfl, fun w hw => by go_simp; try rfl⟩) hHeld ?_
          try simp only [Act.put, List.setIfInBounds_toArray, List.set_cons_zero, List.set_cons_succ]
          refine wpAnyH_take' (i := 14) (d := 10) rfl rfl (by kernel_rfl) (by kernel_rfl) (by kernel_rfl) (fun _ _ _ h => h) (Or.inl ⟨by rfl, fun w hw => by go_simp; try rfl⟩) hHeld ?_
          try simp only [Act.put, List.setIfInBounds_toArray, List.set_cons_zero, List.set_cons_succ]
          refine wpAnyH_done (by kernel_rfl) ?_ _
          exact NormQ.mk ⟨p1, c1, p2, c2, p3, c3, go, gj, cj, gm, rfl, fgm, ⟨gv, gk, R21⟩, hHeld, B3⟩
        · refine wpList_slice1v rfl 26 5 (.tmp 34) rfl (.int .u8 (o : Int)) (cellsL [o]) rfl rfl Safg.underlying26 Safg.size5 Safg.zcells5 (by show 0 < 1; omega) (by show 1 ≤ 65536; omega) ?_
          intro w8 go hgo ko bx
          have hHeld : Own w8 g5 A ∧ Own w8 g6 B ∧ Own w8 g7 C := ⟨hHeld.1.below bx hHeld.1.lt, hHeld.2.1.below bx hHeld.2.1.lt, hHeld.2.2.below bx hHeld.2.2.lt⟩
          have r1 := r1.below bx r1.lt
          have r2 := r2.below bx r2.lt
          have B3 := B3.trans (bx.mono B3.size)
          clear bx
          refine backTo.nil hHeld ?_
          try simp only [Act.put, List.setIfInBounds_toArray, List.set_cons_zero, List.set_cons_succ]
          refine wpAnyH_one 5 (by kernel_rfl) rfl rfl ?_
          refine wp_callR Safg.func7 (by kernel_rfl) (by kernel_rfl) (push32_any w8 A lA dA) rfl rfl ?_
          rintro e w9 ⟨p3, c3, rfl, hp3, r3, bx⟩
          have hHeld : Own w9 g5 A ∧ Own w9 g6 B ∧ Own w9 g7 C := ⟨hHeld.1.below bx hHeld.1.lt, hHeld.2.1.below bx hHeld.2.1.lt, hHeld.2.2.below bx hHeld.2.2.lt⟩
          have r1 := r1.below bx r1.lt
          have r2 := r2.below bx r2.lt
          have ko := ko.below bx ko.lt
          have B3 := B3.trans (bx.mono B3.size)
          clear bx
          refine ⟨_, rfl, hHeld, ?_⟩
          try simp only [Act.put, List.setIfInBounds_toArray, List.set_cons_zero, List.set_cons_succ]
          have oko : Own w9 go [o] := ⟨ko.lt, fun j hj => ko.get (by rw [cellsL, List.getElem?_map, List.getD_eq_getElem?_getD, List.getElem?_eq_getElem hj]; rfl), ko.free⟩
          have hj := join_any w9 ⟨p1, 0, none⟩ ⟨p2, 0, none⟩ ⟨p3, 0, none⟩ ⟨go, 0, none⟩ c1 c2 c3 1 (127 :: C) (127 :: B) (127 :: A) [o] (by have := r1.rd (D.Dig.cons (by omega) dC); simpa [lC] using this) (by have := r2.rd (D.Dig.cons (by omega) dB); simpa [lB] using this) (by have := r3.rd (D.Dig.cons (by omega) dA); simpa [lA] using this) (oko.rd (D.Dig.cons (by omega) D.Dig.nil))
          refine wpAnyH_one 8 (by kernel_rfl) rfl rfl ?_
          refine wp_callR Safg.func6 (by kernel_rfl) (by kernel_rfl) hj rfl rfl ?_
          rintro e w20 ⟨gj, cj, rfl, hgj, oj, bx⟩
          have hHeld : Own w20 g5 A ∧ Own w20 g6 B ∧ Own w20 g7 C := ⟨hHeld.1.below bx hHeld.1.lt, hHeld.2.1.below bx hHeld.2.1.lt, hHeld.2.2.below bx hHeld.2.2.lt⟩
          have B3 := B3.trans (bx.mono B3.size)
          clear bx
          have oj : Own w20 gj (codeL A B C o) := oj
          rw [HCC.out] at oj
          refine ⟨_, rfl, hHeld, ?_⟩
          try simp only [Act.put, List.setIfInBounds_toArray, List.set_cons_zero, List.set_cons_succ]
          refine wpAnyH_one 9 (by kernel_rfl) rfl rfl ?_
          refine wp_callR Safg.func5 (by kernel_rfl) (by kernel_rfl) (machOn_any w20 gj cj o CC oj hC4 dCC) rfl rfl ?_
          rintro e w21 ⟨gm, gv, gk, rfl, hgm, R21, bx⟩
          have fgm : w.heap.size ≤ gm ∧ g5 ∉ [gm] ∧ g6 ∉ [gm] ∧ g7 ∉ [gm] := by have := hHeld.1.lt; have := hHeld.2.1.lt; have := hHeld.2.2.lt; have := B3.size; refine ⟨by omega, by simp; omega, by simp; omega, by simp; omega⟩
          have hHeld : Own w21 g5 A ∧ Own w21 g6 B ∧ Own w21 g7 C := ⟨hHeld.1.below bx hHeld.1.lt, hHeld.2.1.below bx hHeld.2.1.lt, hHeld.2.2.below bx hHeld.2.2.lt⟩
          have B3 := B3.trans (bx.mono B3.size)
          clear bx
          refine ⟨_, rfl, hHeld, ?_⟩
          try simp only [Act.put, List.setIfInBounds_toArray, List.set_cons_zero, List.set_cons_succ]
          refine wpAnyH_take' (i := 10) (d := 27) rfl rfl (by kernel_rfl) (by kernel_rfl) (by kernel_rfl) (fun _ _ _ h => h) (Or.inl ⟨by rfl, fun w hw => by go_simp; try rfl⟩) hHeld ?_
          try simp only [Act.put, List.setIfInBounds_toArray, List.set_cons_zero, List.set_cons_succ]
          refine wpAnyH_take' (i := 11) (d := 38) rfl rfl (by kernel_rfl) (by kernel_rfl) (by kernel_rfl) (fun _ _ _ h => h) (Or.inl ⟨by rfl, fun w hw => by go_simp; try rfl⟩) hHeld ?_
          try simp only [Act.put, List.setIfInBounds_toArray, List.set_cons_zero, List.set_cons_succ]
          refine wpAnyH_take' (i := 12) (d := 39) rfl rfl (by kernel_rfl) (by kernel_rfl) (by kernel_rfl) (fun _ _ _ h => h) (Or.inl ⟨by rfl, fun w hw => by go_simp; try rfl⟩) hHeld ?_
          try simp only [Act.put, List.setIfInBounds_toArray, List.set_cons_zero, List.set_cons_succ]
          refine wpAnyH_take' (i := 13) (d := 9) rfl rfl (by kernel_rfl) (by kernel_rfl) (by kernel_rfl) (fun _ _ _ h => h) (Or.inl ⟨by rfl, fun w hw => by go_simp; try rfl⟩) hHeld ?_
          try simp only [Act.put, List.setIfInBounds_toArray, List.set_cons_zero, List.set_cons_succ]
          refine wpAnyH_take' (i := 14) (d := 10) rfl rfl (by kernel_rfl) (by kernel_rfl) (by kernel_rfl) (fun _ _ _ h => h) (Or.inl ⟨by rfl, fun w hw => by go_simp; try rfl⟩) hHeld ?_
          try simp only [Act.put, List.setIfInBounds_toArray, List.set_cons_zero, List.set_cons_succ]
          refine wpAnyH_done (by kernel_rfl) ?_ _
          exact NormQ.mk ⟨p1, c1, p2, c2, p3, c3, go, gj, cj, gm, rfl, fgm, ⟨gv, gk, R21⟩, hHeld, B3⟩
      · refine wpList_slice1v rfl 26 5 (.tmp 34) rfl (.int .u8 (o : Int)) (cellsL [o]) rfl rfl Safg.underlying26 Safg.size5 Safg.zcells5 (by show 0 < 1; omega) (by show 1 ≤ 65536; omega) ?_
        intro w10 go hgo ko bx
        have hHeld : Own w10 g5 A ∧ Own w10 g6 B ∧ Own w10 g7 C := ⟨hHeld.1.below bx hHeld.1.lt, hHeld.2.1.below bx hHeld.2.1.lt, hHeld.2.2.below bx hHeld.2.2.lt⟩
        have r1 := r1.below bx r1.lt
        have B3 := B3.trans (bx.mono B3.size)
        clear bx
        refine backTo.nil hHeld ?_
        try simp only [Act.put, List.setIfInBounds_toArray, List.set_cons_zero, List.set_cons_succ]
        refine wpAnyH_one 3 (by kernel_rfl) rfl rfl ?_
        refine wp_callR Safg.func7 (by kernel_rfl) (by kernel_rfl) (push32_any w10 B lB dB) rfl rfl ?_
        rintro e w11 ⟨p2, c2, rfl, hp2, r2, bx⟩
        have hHeld : Own w11 g5 A ∧ Own w11 g6 B ∧ Own w11 g7 C := ⟨hHeld.1.below bx hHeld.1.lt, hHeld.2.1.below bx hHeld.2.1.lt, hHeld.2.2.below bx hHeld.2.2.lt⟩
        have r1 := r1.below bx r1.lt
        have ko := ko.below bx ko.lt
        have B3 := B3.trans (bx.mono B3.size)
        clear bx
        refine ⟨_, rfl, hHeld, ?_⟩
        try simp only [Act.put, List.setIfInBounds_toArray, List.set_cons_zero, List.set_cons_succ]
        refine wpAnyH_one 5 (by kernel_rfl) rfl rfl ?_
        refine wp_callR Safg.func7 (by kernel_rfl) (by kernel_rfl) (push32_any w11 A lA dA) rfl rfl ?_
        rintro e w12 ⟨p3, c3, rfl, hp3, r3, bx⟩
        have hHeld : Own w12 g5 A ∧ Own w12 g6 B ∧ Own w12 g7 C := ⟨hHeld.1.below bx hHeld.1.lt, hHeld.2.1.below bx hHeld.2.1.lt, hHeld.2.2.below bx hHeld.2.2.lt⟩
        have r1 := r1.below bx r1.lt
        have ko := ko.below bx ko.lt
        have r2 := r2.below bx r2.lt
        have B3 := B3.trans (bx.mono B3.size)
        clear bx
        refine ⟨_, rfl, hHeld, ?_⟩
        try simp only [Act.put, List.setIfInBounds_toArray, List.set_cons_zero, List.set_cons_succ]
        have oko : Own w12 go [o] := ⟨ko.lt, fun j hj => ko.get (by rw [cellsL, List.getElem?_map, List.getD_eq_getElem?_getD, List.getElem?_eq_getElem hj]; rfl), ko.free⟩
        have hj := join_any w12 ⟨p1, 0, none⟩ ⟨p2, 0, none⟩ ⟨p3, 0, none⟩ ⟨go, 0, none⟩ c1 c2 c3 1 (127 :: C) (127 :: B) (127 :: A) [o] (by have := r1.rd (D.Dig.cons (by omega) dC); simpa [lC] using this) (by have := r2.rd (D.Dig.cons (by omega) dB); simpa [lB] using this) (by have := r3.rd (D.Dig.cons (by omega) dA); simpa [lA] using this) (oko.rd (D.Dig.cons (by omega) D.Dig.nil))
        refine wpAnyH_one 8 (by kernel_rfl) rfl rfl ?_
        refine wp_callR Safg.func6 (by kernel_rfl) (by kernel_rfl) hj rfl rfl ?_
        rintro e w20 ⟨gj, cj, rfl, hgj, oj, bx⟩
        have hHeld : Own w20 g5 A ∧ Own w20 g6 B ∧ Own w20 g7 C := ⟨hHeld.1.below bx hHeld.1.lt, hHeld.2.1.below bx hHeld.2.1.lt, hHeld.2.2.below bx hHeld.2.2.lt⟩
        have B3 := B3.trans (bx.mono B3.size)
        clear bx
        have oj : Own w20 gj (codeL A B C o) := oj
        rw [HCC.out] at oj
        refine ⟨_, rfl, hHeld, ?_⟩
        try simp only [Act.put, List.setIfInBounds_toArray, List.set_cons_zero, List.set_cons_succ]
        refine wpAnyH_one 9 (by kernel_rfl) rfl rfl ?_
        refine wp_callR Safg.func5 (by kernel_rfl) (by kernel_rfl) (machOn_any w20 gj cj o CC oj hC4 dCC) rfl rfl ?_
        rintro e w21 ⟨gm, gv, gk, rfl, hgm, R21, bx⟩
        have fgm : w.heap.size ≤ gm ∧ g5 ∉ [gm] ∧ g6 ∉ [gm] ∧ g7 ∉ [gm] := by have := hHeld.1.lt; have := hHeld.2.1.lt; have := hHeld.2.2.lt; have := B3.size; refine ⟨by omega, by simp; omega, by simp; omega, by simp; omega⟩
        have hHeld : Own w21 g5 A ∧ Own w21 g6 B ∧ Own w21 g7 C := ⟨hHeld.1.below bx hHeld.1.lt, hHeld.2.1.below bx hHeld.2.1.lt, hHeld.2.2.below bx hHeld.2.2.lt⟩
        have B3 := B3.trans (bx.mono B3.size)
        clear bx
        refine ⟨_, rfl, hHeld, ?_⟩
        try simp only [Act.put, List.setIfInBounds_toArray, List.set_cons_zero, List.set_cons_succ]
        refine wpAnyH_take' (i := 10) (d := 27) rfl rfl (by kernel_rfl) (by kernel_rfl) (by kernel_rfl) (fun _ _ _ h => h) (Or.inl ⟨by rfl, fun w hw => by go_simp; try rfl⟩) hHeld ?_
        try simp only [Act.put, List.setIfInBounds_toArray, List.set_cons_zero, List.set_cons_succ]
        refine wpAnyH_take' (i := 11) (d := 38) rfl rfl (by kernel_rfl) (by kernel_rfl) (by kernel_rfl) (fun _ _ _ h => h) (Or.inl ⟨by rfl, fun w hw => by go_simp; try rfl⟩) hHeld ?_
        try simp only [Act.put, List.setIfInBounds_toArray, List.set_cons_zero, List.set_cons_succ]
        refine wpAnyH_take' (i := 12) (d := 39) rfl rfl (by kernel_rfl) (by kernel_rfl) (by kernel_rfl) (fun _ _ _ h => h) (Or.inl ⟨by rfl, fun w hw => by go_simp; try rfl⟩) hHeld ?_
        try simp only [Act.put, List.setIfInBounds_toArray, List.set_cons_zero, List.set_cons_succ]
        refine wpAnyH_take' (i := 13) (d := 9) rfl rfl (by kernel_rfl) (by kernel_rfl) (by kernel_rfl) (fun _ _ _ h => h) (Or.inl ⟨by rfl, fun w hw => by go_simp; try rfl⟩) hHeld ?_
        try simp only [Act.put, List.setIfInBounds_toArray, List.set_cons_zero, List.set_cons_succ]
        refine wpAnyH_take' (i := 14) (d := 10) rfl rfl (by kernel_rfl) (by kernel_rfl) (by kernel_rfl) (fun _ _ _ h => h) (Or.inl ⟨by rfl, fun w hw => by go_simp; try rfl⟩) hHeld ?_
        try simp only [Act.put, List.setIfInBounds_toArray, List.set_cons_zero, List.set_cons_succ]
        refine wpAnyH_done (by kernel_rfl) ?_ _
        exact NormQ.mk ⟨p1, c1, p2, c2, p3, c3, go, gj, cj, gm, rfl, fgm, ⟨gv, gk, R21⟩, hHeld, B3⟩
    · refine wpList_slice1v rfl 26 5 (.tmp 34) rfl (.int .u8 (o : Int)) (cellsL [o]) rfl rfl Safg.underlying26 Safg.size5 Safg.zcells5 (by show 0 < 1; omega) (by show 1 ≤ 65536; omega) ?_
      intro w13 go hgo ko bx
      have hHeld : Own w13 g5 A ∧ Own w13 g6 B ∧ Own w13 g7 C := ⟨hHeld.1.below bx hHeld.1.lt, hHeld.2.1.below bx hHeld.2.1.lt, hHeld.2.2.below bx hHeld.2.2.lt⟩
      have B3 := B3.trans (bx.mono B3.size)
      clear bx
      refine backTo.nil hHeld ?_
      try simp only [Act.put, List.setIfInBounds_toArray, List.set_cons_zero, List.set_cons_succ]
      refine wpAnyH_one 1 (by kernel_rfl) rfl rfl ?_
      refine wp_callR Safg.func7 (by kernel_rfl) (by kernel_rfl) (push32_any w13 C lC dC) rfl rfl ?_
      rintro e w14 ⟨p1, c1, rfl, hp1, r1, bx⟩
      have hHeld : Own w14 g5 A ∧ Own w14 g6 B ∧ Own w14 g7 C := ⟨hHeld.1.below bx hHeld.1.lt, hHeld.2.1.below bx hHeld.2.1.lt, hHeld.2.2.below bx hHeld.2.2.lt⟩
      have ko := ko.below bx ko.lt
      have B3 := B3.trans (bx.mono B3.size)
      clear bx
      refine ⟨_, rfl, hHeld, ?_⟩
      try simp only [Act.put, List.setIfInBounds_toArray, List.set_cons_zero, List.set_cons_succ]
      refine wpAnyH_one 3 (by kernel_rfl) rfl rfl ?_
      refine wp_callR Safg.func7 (by kernel_rfl) (by kernel_rfl) (push32_any w14 B lB dB) rfl rfl ?_
      rintro e w15 ⟨p2, c2, rfl, hp2, r2, bx⟩
      have hHeld : Own w15 g5 A ∧ Own w15 g6 B ∧ Own w15 g7 C := ⟨hHeld.1.below bx hHeld.1.lt, hHeld.2.1.below bx hHeld.2.1.lt, hHeld.2.2.below bx hHeld.2.2.lt⟩
      have ko := ko.below bx ko.lt
      have r1 := r1.below bx r1.lt
      have B3 := B3.trans (bx.mono B3.size)
      clear bx
      refine ⟨_, rfl, hHeld, ?_⟩
      try simp only [Act.put, List.setIfInBounds_toArray, List.set_cons_zero, List.set_cons_succ]
      refine wpAnyH_one 5 (by kernel_rfl) rfl rfl ?_
      refine wp_callR Safg.func7 (by kernel_rfl) (by kernel_rfl) (push32_any w15 A lA dA) rfl rfl ?_
      rintro e w16 ⟨p3, c3, rfl, hp3, r3, bx⟩
      have hHeld : Own w16 g5 A ∧ Own w16 g6 B ∧ Own w16 g7 C := ⟨hHeld.1.below bx hHeld.1.lt, hHeld.2.1.below bx hHeld.2.1.lt, hHeld.2.2.below bx hHeld.2.2.lt⟩
      have ko := ko.below bx ko.lt
      have r1 := r1.below bx r1.lt
      have r2 := r2.below bx r2.lt
      have B3 := B3.trans (bx.mono B3.size)
      clear bx
      refine ⟨_, rfl, hHeld, ?_⟩
      try simp only [Act.put, List.setIfInBounds_toArray, List.set_cons_zero, List.set_cons_succ]
      have oko : Own w16 go [o] := ⟨ko.lt, fun j hj => ko.get (by rw [cellsL, List.getElem?_map, List.getD_eq_getElem?_getD, List.getElem?_eq_getElem hj]; rfl), ko.free⟩
      have hj := join_any w16 ⟨p1, 0, none⟩ ⟨p2, 0, none⟩ ⟨p3, 0, none⟩ ⟨go, 0, none⟩ c1 c2 c3 1 (127 :: C) (127 :: B) (127 :: A) [o] (by have := r1.rd (D.Dig.cons (by omega) dC); simpa [lC] using this) (by have := r2.rd (D.Dig.cons (by omega) dB); simpa [lB] using this) (by have := r3.rd (D.Dig.cons (by omega) dA); simpa [lA] using this) (oko.rd (D.Dig.cons (by omega) D.Dig.nil))
      refine wpAnyH_one 8 (by kernel_rfl) rfl rfl ?_
      refine wp_callR Safg.func6 (by kernel_rfl) (by kernel_rfl) hj rfl rfl ?_
      rintro e w20 ⟨gj, cj, rfl, hgj, oj, bx⟩
      have hHeld : Own w20 g5 A ∧ Own w20 g6 B ∧ Own w20 g7 C := ⟨hHeld.1.below bx hHeld.1.lt, hHeld.2.1.below bx hHeld.2.1.lt, hHeld.2.2.below bx hHeld.2.2.lt⟩
      have B3 := B3.trans (bx.mono B3.size)
      clear bx
      have oj : Own w20 gj (codeL A B C o) := oj
      rw [HCC.out] at oj
      refine ⟨_, rfl, hHeld, ?_⟩
      try simp only [Act.put, List.setIfInBounds_toArray, List.set_cons_zero, List.set_cons_succ]
      refine wpAnyH_one 9 (by kernel_rfl) rfl rfl ?_
      refine wp_callR Safg.func5 (by kernel_rfl) (by kernel_rfl) (machOn_any w20 gj cj o CC oj hC4 dCC) rfl rfl ?_
      rintro e w21 ⟨gm, gv, gk, rfl, hgm, R21, bx⟩
      have fgm : w.heap.size ≤ gm ∧ g5 ∉ [gm] ∧ g6 ∉ [gm] ∧ g7 ∉ [gm] := by have := hHeld.1.lt; have := hHeld.2.1.lt; have := hHeld.2.2.lt; have := B3.size; refine ⟨by omega, by simp; omega, by simp; omega, by simp; omega⟩
      have hHeld : Own w21 g5 A ∧ Own w21 g6 B ∧ Own w21 g7 C := ⟨hHeld.1.below bx hHeld.1.lt, hHeld.2.1.below bx hHeld.2.1.lt, hHeld.2.2.below bx hHeld.2.2.lt⟩
      have B3 := B3.trans (bx.mono B3.size)
      clear bx
      refine ⟨_, rfl, hHeld, ?_⟩
      try simp only [Act.put, List.setIfInBounds_toArray, List.set_cons_zero, List.set_cons_succ]
      refine wpAnyH_take' (i := 10) (d := 27) rfl rfl (by kernel_rfl) (by kernel_rfl) (by kernel_rfl) (fun _ _ _ h => h) (Or.inl ⟨by rfl, fun w hw => by go_simp; try rfl⟩) hHeld ?_
      try simp only [Act.put, List.setIfInBounds_toArray, List.set_cons_zero, List.set_cons_succ]
      refine wpAnyH_take' (i := 11) (d := 38) rfl rfl (by kernel_rfl) (by kernel_rfl) (by kernel_rfl) (fun _ _ _ h => h) (Or.inl ⟨by rfl, fun w hw => by go_simp; try rfl⟩) hHeld ?_
      try simp only [Act.put, List.setIfInBounds_toArray, List.set_cons_zero, List.set_cons_succ]
      refine wpAnyH_take' (i := 12) (d := 39) rfl rfl (by kernel_rfl) (by kernel_rfl) (by kernel_rfl) (fun _ _ _ h => h) (Or.inl ⟨by rfl, fun w hw => by go_simp; try rfl⟩) hHeld ?_
      try simp only [Act.put, List.setIfInBounds_toArray, List.set_cons_zero, List.set_cons_succ]
      refine wpAnyH_take' (i := 13) (d := 9) rfl rfl (by kernel_rfl) (by kernel_rfl) (by kernel_rfl) (fun _ _ _ h => h) (Or.inl ⟨by rfl, fun w hw => by go_simp; try rfl⟩) hHeld ?_
      try simp only [Act.put, List.setIfInBounds_toArray, List.set_cons_zero, List.set_cons_succ]
      refine wpAnyH_take' (i := 14) (d := 10) rfl rfl (by kernel_rfl) (by kernel_rfl) (by kernel_rfl) (fun _ _ _ h => h) (Or.inl ⟨by rfl, fun w hw => by go_simp; try rfl⟩) hHeld ?_
      try simp only [Act.put, List.setIfInBounds_toArray, List.set_cons_zero, List.set_cons_succ]
      refine wpAnyH_done (by kernel_rfl) ?_ _
      exact NormQ.mk ⟨p1, c1, p2, c2, p3, c3, go, gj, cj, gm, rfl, fgm, ⟨gv, gk, R21⟩, hHeld, B3⟩
  case hn =>
    intro x1 x2 x3 x4 x5 x6 x7 x8 x9 gm w4 ⟨⟨lgm, n5m, n6m, n7m⟩, ⟨gv, gk, R4⟩, K4, B4⟩
    clear hHeld B3
    have H1 := step_push_0 w4 gm gv gk 179000 o (fun _ => Wd4.zero) CC (adr 1) (adr 240) R4 hC4 dCC (by omega) (by omega)
    rw [hLC] at H1
    go_upto_region 6 with (first | (go_at_call 8; refine H1.mono ?_; rintro e w5 ⟨rfl, R5, T5⟩; have H2 := step_push_33 w5 gm gv gk 178997 o _ CC (adr 1) (adr 240) R5 hC4 dCC (by omega) (by omega); rw [hLB] at H2; clear H1) | (go_at_call 8; refine H2.mono ?_; rintro e w6 ⟨rfl, R6, T6⟩; have H3 := step_push_66 w6 gm gv gk 178994 o _ CC (adr 1) (adr 240) R6 hC4 dCC (by omega) (by omega); rw [hLA] at H3; clear H2) | (go_at_call 8; refine H3.mono ?_; rintro e w7 ⟨rfl, R7, T7⟩))
    have T7 : Turn [gm] w4 w7 := (T5.trans T6).trans T7
    have K7 : Own w7 g5 A ∧ Own w7 g6 B ∧ Own w7 g7 C := ⟨T7.own K4.1 n5m, T7.own K4.2.1 n6m, T7.own K4.2.2 n7m⟩
    have B7 := B4.trans (T7.below B4.size (by intro i hi; obtain rfl : i = gm := (by simpa using hi); exact lgm))
    clear T5 T6 T7 R4 R5 R6 K4 B4 H3
    obtain ⟨ws, hws⟩ : ∃ f : Nat → Wd4, MF.lay (MF.lay (MF.lay (fun _ => Wd4.zero) 0 (wdOf C)) 1 (wdOf B)) 2 (wdOf A) = f := ⟨_, rfl⟩
    have e0 : ws 0 = wdOf C := by rw [← hws]; rfl
    have e1 : ws 1 = wdOf B := by rw [← hws]; rfl
    have e2 : ws 2 = wdOf A := by rw [← hws]; rfl
    have R7 : Run w7 gm gv gk 99 3 178991 ws CC (adr 1) (adr 240) := by rw [← hws]; exact R7
    clear hws
    have HV := view_any w7 gm gv gk 99 3 178991 ws CC R7 (.inr (.inr rfl)) (by omega) (by omega)
    go_upto_region 7 with (first | (go_at_call 9; refine HV.mono ?_; rintro e w8 ⟨gB, rfl, hgB, sB, b8⟩) | (refine wpList_alloc_agg rfl 36 rfl _ Safg.zero36 ?_; intro w9 g11 hg11 k11 b9) | (refine wpList_store_agg rfl 36 (.tmp 11) _ rfl g11 rfl v0 (vL 99 178991 (.slice (some ⟨gB, 0, none⟩) 3 3)) rfl k11 rfl Safg.size36 (vL_one _ _ _ rfl) ?_; intro w10 k10 n10))
    have s8 := b8.size
    have b79 : Below w7.heap.size w7 w9 := b8.trans (b9.mono s8)
    have lgm7 : gm < w7.heap.size := by obtain ⟨f, m, _⟩ := R7.m; exact m.lt
    have lgv7 := R7.lv
    have lgk7 := R7.own.lt
    have l57 := K7.1.lt
    have l67 := K7.2.1.lt
    have l77 := K7.2.2.lt
    have lB8 := sB.lt
    have h11 : w7.heap.size ≤ g11 := Nat.le_trans s8 hg11
    have B10 := (B7.trans (b79.mono B7.size)).trans (n10.below (Nat.le_trans B7.size h11))
    have b710 : Below w7.heap.size w7 w10 := b79.trans (n10.below h11)
    have R10 := R7.below b710
    have K10 : Own w10 g5 A ∧ Own w10 g6 B ∧ Own w10 g7 C := ⟨K7.1.below b710 l57, K7.2.1.below b710 l67, K7.2.2.below b710 l77⟩
    have sB10 := (sB.below b9).turn (Turn.of_only n10) (by simp; omega)
    have nBm : gB ∉ [gm] := by simp; omega
    have n11m : g11 ∉ [gm] := by simp; omega
    have n5m : g5 ∉ [gm] := n5m
    clear b8 b9 n10 b79 b710 K7 B7 R7 HV sB k11
    obtain ⟨m, hm, h32⟩ : ∃ m, Bytes (wdOf B).val m ∧ m ≤ 32 := by
      have h1 := bytes_trim (l := B.reverse) (fun x hx => dB x (List.mem_reverse.1 hx))
      rw [← val_wdOf lB] at h1
      exact ⟨_, h1, by have := D.trimL_len B.reverse; rw [List.length_reverse] at this; omega⟩
    have HB : Hid (Bytes (wdOf B).val m) := hm
    refine wp_region_held_drew (S := fun w' => (Own w' g5 A ∧ Own w' g6 B ∧ Own w' g7 C) ∧ Blk w' g11 (vL 99 178991 (.slice (some ⟨gB, 0, none⟩) 3 3))) (by kernel_rfl) ⟨⟨(Same.drew w10).own K10.1, (Same.drew w10).own K10.2.1, (Same.drew w10).own K10.2.2⟩, (Same.drew w10).blk k10⟩ (fun hHeld => ?_)
    have R10 := R10.drew
    have sB10 := sB10.below (Turn.drew_below w10)
    have B10 := B10.trans ((Turn.drew_below w10).mono B10.size)
    clear K10 k10
    generalize w10.drew = w10 at *
    refine wpAnyH_take' (i := 0) (d := 59) rfl rfl (by kernel_rfl) (by kernel_rfl) (by kernel_rfl) (fun _ _ _ h => h) (Or.inl ⟨by rfl, fun w hw => by go_simp; try rfl⟩) hHeld ?_
    try simp only [Act.put, List.setIfInBounds_toArray, List.set_cons_zero, List.set_cons_succ]
    refine wpAnyH_one 1 (by kernel_rfl) rfl rfl ?_
    refine wp_callR Safg.func8 (by kernel_rfl) (by kernel_rfl) (step_alu w10 gm gv gk 178991 o m ws CC (adr 1) (adr 240) ha R10 hC4 (by rw [e1]; exact HB.out) h32 (by omega) (by omega)) rfl rfl ?_
    rintro e w11 ⟨s, sok, sv, rfl, R11, T11⟩
    rw [e0, e1, e2] at sv
    have SV : Hid (s.val = aluW o (wdOf A).val (wdOf B).val (wdOf C).val) := sv
    clear sv hm
    have S11 : (Own w11 g5 A ∧ Own w11 g6 B ∧ Own w11 g7 C) ∧ Blk w11 g11 (vL 99 178991 (.slice (some ⟨gB, 0, none⟩) 3 3)) := ⟨⟨T11.own hHeld.1.1 n5m, T11.own hHeld.1.2.1 n6m, T11.own hHeld.1.2.2 n7m⟩, OS.blk_turn hHeld.2 T11 n11m⟩
    have sB11 := sB10.turn T11 nBm
    have B11 := B10.trans (T11.below B10.size (by intro i hi; obtain rfl : i = gm := (by simpa using hi); exact lgm))
    refine ⟨_, rfl, S11, ?_⟩
    try simp only [Act.put, List.setIfInBounds_toArray, List.set_cons_zero, List.set_cons_succ]
    refine wpAnyH_take' (i := 2) (d := 61) rfl rfl (by kernel_rfl) (by kernel_rfl) (by kernel_rfl) (fun _ _ _ h => h) (Or.inl ⟨by rfl, fun w hw => by go_simp; try rfl⟩) S11 ?_
    try simp only [Act.put, List.setIfInBounds_toArray, List.set_cons_zero, List.set_cons_succ]
    refine wpAnyH_take' (i := 3) (d := 62) rfl rfl (by kernel_rfl) (by kernel_rfl) (by kernel_rfl) (fun _ _ _ h => h) (Or.inl ⟨by rfl, fun w hw => by go_simp; try rfl⟩) S11 ?_
    try simp only [Act.put, List.setIfInBounds_toArray, List.set_cons_zero, List.set_cons_succ]
    refine wpAnyH_take' (i := 4) (d := 63) rfl rfl (by kernel_rfl) (by kernel_rfl) (by kernel_rfl) (fun _ _ _ h => h) (yieldsIf_load_mid (by rfl) 22 _ rfl g5 0 rfl (cellsL A) _ (fun w hw => hw.1.1.range) Safg.underlying22 rfl (by rw [cellsL_length, lA]; exact Safg.size22)) S11 ?_
    try simp only [Act.put, List.setIfInBounds_toArray, List.set_cons_zero, List.set_cons_succ]
    refine wpAnyH_take' (i := 5) (d := 64) rfl rfl (by kernel_rfl) (by kernel_rfl) (by kernel_rfl) (fun _ _ _ h => h) (yieldsIf_load_mid (by rfl) 22 _ rfl g6 0 rfl (cellsL B) _ (fun w hw => hw.1.2.1.range) Safg.underlying22 rfl (by rw [cellsL_length, lB]; exact Safg.size22)) S11 ?_
    try simp only [Act.put, List.setIfInBounds_toArray, List.set_cons_zero, List.set_cons_succ]
    refine wpAnyH_take' (i := 6) (d := 65) rfl rfl (by kernel_rfl) (by kernel_rfl) (by kernel_rfl) (fun _ _ _ h => h) (yieldsIf_load_mid (by rfl) 22 _ rfl g7 0 rfl (cellsL C) _ (fun w hw => hw.1.2.2.range) Safg.underlying22 rfl (by rw [cellsL_length, lC]; exact Safg.size22)) S11 ?_
    try simp only [Act.put, List.setIfInBounds_toArray, List.set_cons_zero, List.set_cons_succ]
    refine wpAnyH_take' (i := 7) (d := 66) rfl rfl (by kernel_rfl) (by kernel_rfl) (by kernel_rfl) (fun _ _ _ h => h) (yieldsIf_load_mid (by rfl) 36 _ rfl g11 0 rfl (vL 99 178991 (.slice (some ⟨gB, 0, none⟩) 3 3)) _ (fun w hw => hw.2.cell) u36 rfl Safg.size36) S11 ?_
    try simp only [Act.put, List.setIfInBounds_toArray, List.set_cons_zero, List.set_cons_succ]
    refine wpAnyH_take' (i := 8) (d := 67) rfl rfl (by kernel_rfl) (by kernel_rfl) (by kernel_rfl) (fun _ _ _ h => h) (Or.inl ⟨by rfl, fun w hw => by go_simp; try rfl⟩) S11 ?_
    try simp only [Act.put, List.setIfInBounds_toArray, List.set_cons_zero, List.set_cons_succ]
    obtain ⟨gas', hgas'⟩ : ∃ g, 178991 - costN o m = g := ⟨_, rfl⟩
    have HG : Hid (178991 - costN o m = gas') := hgas'
    obtain ⟨kk, hkk⟩ : ∃ k, 3 - takesN o + 1 = k := ⟨_, rfl⟩
    have HK' : Hid (3 - takesN o + 1 = kk) := hkk
    have hk3 : kk = 1 ∨ kk = 2 ∨ kk = 3 := by rcases takes_cases o with h | h | h <;> omega
    have hg' : gas' < 18446744073709551616 := by omega
    rw [hgas', hkk] at R11
    clear hgas' hkk
    refine wpAnyH_oneG 9 (by kernel_rfl) rfl (by rfl) ?_
    refine wp_callR Safg.func9 (by kernel_rfl) (by kernel_rfl) (view_any w11 gm gv gk 100 kk gas' _ CC R11 hk3 (by omega) hg') rfl rfl ?_
    rintro e w12 ⟨gS, rfl, hgS, sS, b12⟩
    have S12 : (Own w12 g5 A ∧ Own w12 g6 B ∧ Own w12 g7 C) ∧ Blk w12 g11 (vL 99 178991 (.slice (some ⟨gB, 0, none⟩) 3 3)) := ⟨⟨S11.1.1.below b12 S11.1.1.lt, S11.1.2.1.below b12 S11.1.2.1.lt, S11.1.2.2.below b12 S11.1.2.2.lt⟩, S11.2.below b12 S11.2.lt⟩
    have sB12 := sB11.below b12
    have B12 := B11.trans (b12.mono B11.size)
    refine ⟨_, rfl, S12, ?_⟩
    try simp only [Act.put, List.setIfInBounds_toArray, List.set_cons_zero, List.set_cons_succ]
    have HH : Calls Safg.prog 10 #[.int .u8 (o : Int), arrV A, arrV B, arrV C, .agg (vL 99 178991 (.slice (some ⟨gB, 0, none⟩) 3 3)).toArray, .agg (vL 100 gas' (.slice (some ⟨gS, 0, none⟩) kk kk)).toArray] w12 fun e w' => e = .returned (.bool true) ∧ Below w12.heap.size w12 w' := by
      have h := hold_any w12 o ha A B C lA lB lC dA dB dC gB gS 178991 m s sok SV.out ws HB.out h32 (by omega) (by omega) sB12 (by rw [HK'.out]; exact sS)
      rw [HG.out, HK'.out] at h
      exact h
    refine wpAnyH_oneG 10 (by kernel_rfl) rfl (by rfl) ?_
    refine wp_callR Safg.func10 (by kernel_rfl) (by kernel_rfl) HH rfl rfl ?_
    rintro e w13 ⟨rfl, b13⟩
    have S13 : (Own w13 g5 A ∧ Own w13 g6 B ∧ Own w13 g7 C) ∧ Blk w13 g11 (vL 99 178991 (.slice (some ⟨gB, 0, none⟩) 3 3)) := ⟨⟨S12.1.1.below b13 S12.1.1.lt, S12.1.2.1.below b13 S12.1.2.1.lt, S12.1.2.2.below b13 S12.1.2.2.lt⟩, S12.2.below b13 S12.2.lt⟩
    refine ⟨_, rfl, S13, ?_⟩
    try simp only [Act.put, List.setIfInBounds_toArray, List.set_cons_zero, List.set_cons_succ]
    refine wpAnyH_take' (i := 11) (d := 70) rfl rfl (by kernel_rfl) (by kernel_rfl) (by kernel_rfl) (fun _ _ _ h => h) (Or.inl ⟨by rfl, fun w hw => by go_simp; try rfl⟩) S13 ?_
    try simp only [Act.put, List.setIfInBounds_toArray, List.set_cons_zero, List.set_cons_succ]
    refine wpAnyH_take' (i := 12) (d := 8) rfl rfl (by kernel_rfl) (by kernel_rfl) (by kernel_rfl) (fun _ _ _ h => h) (Or.inl ⟨by rfl, fun w hw => by go_simp; try rfl⟩) S13 ?_
    try simp only [Act.put, List.setIfInBounds_toArray, List.set_cons_zero, List.set_cons_succ]
    refine wpAnyH_done (by kernel_rfl) ?_ _
    go_wp2
    go_ret
    exact ⟨rfl, B12.trans (b13.mono B12.size)⟩
set_option maxRecDepth 100000 in
set_option maxHeartbeats 16000000 in
theorem walk_2 (w : World) (o : Nat) (ho : 16 ≤ o ∧ o ≤ 29) (A B C : List Nat) (lA : A.length = 32) (lB : B.length = 32) (lC : C.length = 32) (dA : D.Dig A) (dB : D.Dig B) (dC : D.Dig C) :
    Calls Safg.prog 3 #[.int .u8 (o : Int), arrV A, arrV B, arrV C] w fun e w' => e = .returned (.bool true) ∧ Below w.heap.size w w' := by
  have ha : AluOp o := .inr ho
  have ho91 : o < 91 := by unfold AluOp at ha; omega
  have t1 : decide ((1 : Int) ≤ (o : Int)) = true := decide_eq_true (by omega)
  have t2 : decide ((o : Int) ≤ 11) = false := decide_eq_false (by omega)
  have t3 : decide ((16 : Int) ≤ (o : Int)) = true := decide_eq_true (by omega)
  have t4 : decide ((o : Int) ≤ 29) = true := decide_eq_true (by omega)
  obtain ⟨fs, u36⟩ : ∃ fs, Safg.prog.underlying 36 = some (.struct fs) := ⟨_, rfl⟩
  have hC4 := codeL_ok (A := A) (B := B) (C := C) (o := o) lA lB lC ho91
  have dCC := codeL_dig (o := o) dA dB dC (by omega)
  have hLC := codeL_c (A := A) (B := B) (o := o) lC
  have hLB := codeL_b (A := A) (o := o) lB lC
  have hLA := codeL_a (o := o) lA lB lC
  obtain ⟨CC, hCC⟩ : ∃ L, codeL A B C o = L := ⟨_, rfl⟩
  have HCC : Hid (codeL A B C o = CC) := hCC
  rw [hCC] at hC4 dCC hLC hLB hLA
  clear hCC
  go_enter Safg.func3, Safg.ntmps3
  go_upto_region 3 with (first | (refine wpList_box_arr rfl 22 (.tmp 1) rfl A rfl ?_; intro w1 g5 hg5 o5 b1) | (refine wpList_box_arr rfl 22 (.tmp 2) rfl B rfl ?_; intro w2 g6 hg6 o6 b2) | (refine wpList_box_arr rfl 22 (.tmp 3) rfl C rfl ?_; intro w3 g7 hg7 o7 b3))
  have s1 := b1.size; have s2 := b2.size; have s3 := b3.size
  have o5 := (o5.below b2 o5.lt).below b3 (Nat.lt_of_lt_of_le o5.lt s2)
  have o6 := o6.below b3 o6.lt
  have B3 : Below w.heap.size w w3 := (b1.trans (b2.mono s1)).trans (b3.mono (by omega))
  clear b1 b2 b3 s1 s2 s3
  have o5 := (Same.drew w3).own o5
  have o6 := (Same.drew w3).own o6
  have o7 := (Same.drew w3).own o7
  have B3 := B3.trans ((Turn.drew_below w3).mono B3.size)
  refine wp_region_held_drew (S := fun w' => Own w' g5 A ∧ Own w' g6 B ∧ Own w' g7 C) (by kernel_rfl) ⟨o5, o6, o7⟩ (fun hHeld => ?_)
  clear o5 o6 o7
  generalize w3.drew = w3 at *
  apply wpAnyH_to10 (F := fun gm w' => (w.heap.size ≤ gm ∧ g5 ∉ [gm] ∧ g6 ∉ [gm] ∧ g7 ∉ [gm]) ∧ (∃ gv gk, Run w' gm gv gk 0 0 179000 (fun _ => Wd4.zero) CC (adr 1) (adr 240)) ∧ (Own w' g5 A ∧ Own w' g6 B ∧ Own w' g7 C) ∧ Below w.heap.size w w')
  case h =>
    refine wpAnyH_take' (i := 0) (d := 28) rfl rfl (by kernel_rfl) (by kernel_rfl) (by kernel_rfl) (fun _ _ _ h => h) (yieldsIf_load_mid (by rfl) 22 _ rfl g7 0 rfl (cellsL C) _ (fun w hw => hw.2.2.range) Safg.underlying22 rfl (by rw [cellsL_length, lC]; exact Safg.size22)) hHeld ?_
    try simp only [Act.put, List.setIfInBounds_toArray, List.set_cons_zero, List.set_cons_succ]
    refine wpAnyH_take' (i := 2) (d := 30) rfl rfl (by kernel_rfl) (by kernel_rfl) (by kernel_rfl) (fun _ _ _ h => h) (yieldsIf_load_mid (by rfl) 22 _ rfl g6 0 rfl (cellsL B) _ (fun w hw => hw.2.1.range) Safg.underlying22 rfl (by rw [cellsL_length, lB]; exact Safg.size22)) hHeld ?_
    try simp only [Act.put, List.setIfInBounds_toArray, List.set_cons_zero, List.set_cons_succ]
    refine wpAnyH_take' (i := 4) (d := 32) rfl rfl (by kernel_rfl) (by kernel_rfl) (by kernel_rfl) (fun _ _ _ h => h) (yieldsIf_load_mid (by rfl) 22 _ rfl g5 0 rfl (cellsL A) _ (fun w hw => hw.1.range) Safg.underlying22 rfl (by rw [cellsL_length, lA]; exact Safg.size22)) hHeld ?_
    try simp only [Act.put, List.setIfInBounds_toArray, List.set_cons_zero, List.set_cons_succ]
    refine wpAnyH_take' (i := 6) (d := 34) rfl rfl (by kernel_rfl) (by kernel_rfl) (by kernel_rfl) (fun _ _ _ h => h) (Or.inl ⟨by rfl, fun w hw => by go_simp; try rfl⟩) hHeld ?_
    try simp only [Act.put, List.setIfInBounds_toArray, List.set_cons_zero, List.set_cons_succ]
    refine wpAnyH_twoL 1 7 (by kernel_rfl) rfl rfl rfl rfl ?_ ?_
    · refine wp_callR Safg.func7 (by kernel_rfl) (by kernel_rfl) (push32_any w3 C lC dC) rfl rfl ?_
      rintro e w4 ⟨p1, c1, rfl, hp1, r1, bx⟩
      have hHeld : Own w4 g5 A ∧ Own w4 g6 B ∧ Own w4 g7 C := ⟨hHeld.1.below bx hHeld.1.lt, hHeld.2.1.below bx hHeld.2.1.lt, hHeld.2.2.below bx hHeld.2.2.lt⟩
      have B3 := B3.trans (bx.mono B3.size)
      clear bx
      refine ⟨_, rfl, hHeld, ?_⟩
      try simp only [Act.put, List.setIfInBounds_toArray, List.set_cons_zero, List.set_cons_succ]
      refine wpAnyH_twoL 3 7 (by kernel_rfl) rfl rfl rfl rfl ?_ ?_
      · refine wp_callR Safg.func7 (by kernel_rfl) (by kernel_rfl) (push32_any w4 B lB dB) rfl rfl ?_
        rintro e w5 ⟨p2, c2, rfl, hp2, r2, bx⟩
        have hHeld : Own w5 g5 A ∧ Own w5 g6 B ∧ Own w5 g7 C := ⟨hHeld.1.below bx hHeld.1.lt, hHeld.2.1.below bx hHeld.2.1.lt, hHeld.2.2.below bx hHeld.2.2.lt⟩
        have r1 := r1.below bx r1.lt
        have B3 := B3.trans (bx.mono B3.size)
        clear bx
        refine ⟨_, rfl, hHeld, ?_⟩
        try simp only [Act.put, List.setIfInBounds_toArray, List.set_cons_zero, List.set_cons_succ]
        refine wpAnyH_twoL 5 7 (by kernel_rfl) rfl rfl rfl rfl ?_ ?_
        · refine wp_callR Safg.func7 (by kernel_rfl) (by kernel_rfl) (push32_any w5 A lA dA) rfl rfl ?_
          rintro e w6 ⟨p3, c3, rfl, hp3, r3, bx⟩
          have hHeld : Own w6 g5 A ∧ Own w6 g6 B ∧ Own w6 g7 C := ⟨hHeld.1.below bx hHeld.1.lt, hHeld.2.1.below bx hHeld.2.1.lt, hHeld.2.2.below bx hHeld.2.2.lt⟩
          have r1 := r1.below bx r1.lt
          have r2 := r2.below bx r2.lt
          have B3 := B3.trans (bx.mono B3.size)
          clear bx
          refine ⟨_, rfl, hHeld, ?_⟩
          try simp only [Act.put, List.setIfInBounds_toArray, List.set_cons_zero, List.set_cons_succ]
          refine wpAnyH_list 7 (by kernel_rfl) rfl rfl ?_
          refine wpList_slice1v rfl 26 5 (.tmp 34) rfl (.int .u8 (o : Int)) (cellsL [o]) rfl rfl Safg.underlying26 Safg.size5 Safg.zcells5 (by show 0 < 1; omega) (by show 1 ≤ 65536; omega) ?_
          intro w7 go hgo ko bx
          have hHeld : Own w7 g5 A ∧ Own w7 g6 B ∧ Own w7 g7 C := ⟨hHeld.1.below bx hHeld.1.lt, hHeld.2.1.below bx hHeld.2.1.lt, hHeld.2.2.below bx hHeld.2.2.lt⟩
          have r1 := r1.below bx r1.lt
          have r2 := r2.below bx r2.lt
          have r3 := r3.below bx r3.lt
          have B3 := B3.trans (bx.mono B3.size)
          clear bx
          refine backTo.nil hHeld ?_
          try simp only [Act.put, List.setIfInBounds_toArray, List.set_cons_zero, List.set_cons_succ]
          have oko : Own w7 go [o] := ⟨ko.lt, fun j hj => ko.get (by rw [cellsL, List.getElem?_map, List.getD_eq_getElem?_getD, List.getElem?_eq_getElem hj]; rfl), ko.free⟩
          have hj := join_any w7 ⟨p1, 0, none⟩ ⟨p2, 0, none⟩ ⟨p3, 0, none⟩ ⟨go, 0, none⟩ c1 c2 c3 1 (127 :: C) (127 :: B) (127 :: A) [o] (by have := r1.rd (D.Dig.cons (by omega) dC); simpa [lC] using this) (by have := r2.rd (D.Dig.cons (by omega) dB); simpa [lB] using this) (by have := r3.rd (D.Dig.cons (by omega) dA); simpa [lA] using this) (oko.rd (D.Dig.cons (by omega) D.Dig.nil))
          refine wpAnyH_one 8 (by kernel_rfl) rfl rfl ?_
          refine wp_callR Safg.func6 (by kernel_rfl) (by kernel_rfl) hj rfl rfl ?_
          rintro e w20 ⟨gj, cj, rfl, hgj, oj, bx⟩
          have hHeld : Own w20 g5 A ∧ Own w20 g6 B ∧ Own w20 g7 C := ⟨hHeld.1.below bx hHeld.1.lt, hHeld.2.1.below bx hHeld.2.1.lt, hHeld.2.2.below bx hHeld.2.2.lt⟩
          have B3 := B3.trans (bx.mono B3.size)
          clear bx
          have oj : Own w20 gj (codeL A B C o) := oj
          rw [HCC.out] at oj
          refine ⟨_, rfl, hHeld, ?_⟩
          try simp only [Act.put, List.setIfInBounds_toArray, List.set_cons_zero, List.set_cons_succ]
          refine wpAnyH_one 9 (by kernel_rfl) rfl rfl ?_
          refine wp_callR Safg.func5 (by kernel_rfl) (by kernel_rfl) (machOn_any w20 gj cj o CC oj hC4 dCC) rfl rfl ?_
          rintro e w21 ⟨gm, gv, gk, rfl, hgm, R21, bx⟩
          have fgm : w.heap.size ≤ gm ∧ g5 ∉ [gm] ∧ g6 ∉ [gm] ∧ g7 ∉ [gm] := by have := hHeld.1.lt; have := hHeld.2.1.lt; have := hHeld.2.2.lt; have := B3.size; refine ⟨by omega, by simp; omega, by simp; omega, by simp; omega⟩
          have hHeld : Own w21 g5 A ∧ Own w21 g6 B ∧ Own w21 g7 C := ⟨hHeld.1.below bx hHeld.1.lt, hHeld.2.1.below bx hHeld.2.1.lt, hHeld.2.2.below bx hHeld.2.2.lt⟩
          have B3 := B3.trans (bx.mono B3.size)
          clear bx
          refine ⟨_, rfl, hHeld, ?_⟩
          try simp only [Act.put, List.setIfInBounds_toArray, List.set_cons_zero, List.set_cons_succ]
          refine wpAnyH_take' (i := 10) (d := 27) rfl rfl (by kernel_rfl) (by kernel_rfl) (by kernel_rfl) (fun _ _ _ h => h) (Or.inl ⟨by rfl, fun w hw => by go_simp; try rfl⟩) hHeld ?_
          try simp only [Act.put, List.setIfInBounds_toArray, List.set_cons_zero, List.set_cons_succ]
          refine wpAnyH_take' (i := 11) (d := 38) rfl rfl (by kernel_rfl) (by kernel_rfl) (by kernel_rfl) (fun _ _ _ h => h) (Or.inl ⟨by rfl, fun w hw => by go_simp; try rfl⟩) hHeld ?_
          try simp only [Act.put, List.setIfInBounds_toArray, List.set_cons_zero, List.set_cons_succ]
          refine wpAnyH_take' (i := 12) (d := 39) rfl rfl (by kernel_rfl) (by kernel_rfl) (by kernel_rfl) (fun _ _ _ h => h) (Or.inl ⟨by rfl, fun w hw => by go_simp; try rfl⟩) hHeld ?_
          try simp only [Act.put, List.setIfInBounds_toArray, List.set_cons_zero, List.set_cons_succ]
          refine wpAnyH_take' (i := 13) (d := 9) rfl rfl (by kernel_rfl) (by kernel_rfl) (by kernel_rfl) (fun _ _ _ h => h) (Or.inl ⟨by rfl, fun w hw => by go_simp; try rfl⟩) hHeld ?_
          try simp only [Act.put, List.setIfInBounds_toArray, List.set_cons_zero, List.set_cons_succ]
          refine wpAnyH_take' (i := 14) (d := 10) rfl rfl (by kernel_rfl) (by kernel_rfl) (by kernel_rfl) (fun _ _ _ h => h) (Or.inl ⟨by rfl, fun w hw => by go_simp; try rfl⟩) hHeld ?_
          try simp only [Act.put, List.setIfInBounds_toArray, List.set_cons_zero, List.set_cons_succ]
          refine wpAnyH_done (by kernel_rfl) ?_ _
          exact NormQ.mk ⟨p1, c1, p2, c2, p3, c3, go, gj, cj, gm, rfl, fgm, ⟨gv, gk, R21⟩, hHeld, B3⟩
        · refine wpList_slice1v rfl 26 5 (.tmp 34) rfl (.int .u8 (o : Int)) (cellsL [o]) rfl rfl Safg.underlying26 Safg.size5 Safg.zcells5 (by show 0 < 1; omega) (by show 1 ≤ 65536; omega) ?_
          intro w8 go hgo ko bx
          have hHeld : Own w8 g5 A ∧ Own w8 g6 B ∧ Own w8 g7 C := ⟨hHeld.1.below bx hHeld.1.lt, hHeld.2.1.below bx hHeld.2.1.lt, hHeld.2.2.below bx hHeld.2.2.lt⟩
          have r1 := r1.below bx r1.lt
          have r2 := r2.below bx r2.lt
          have B3 := B3.trans (bx.mono B3.size)
          clear bx
          refine backTo.nil hHeld ?_
          try simp only [Act.put, List.setIfInBounds_toArray, List.set_cons_zero, List.set_cons_succ]
          refine wpAnyH_one 5 (by kernel_rfl) rfl rfl ?_
          refine wp_callR Safg.func7 (by kernel_rfl) (by kernel_rfl) (push32_any w8 A lA dA) rfl rfl ?_
          rintro e w9 ⟨p3, c3, rfl, hp3, r3, bx⟩
          have hHeld : Own w9 g5 A ∧ Own w9 g6 B ∧ Own w9 g7 C := ⟨hHeld.1.below bx hHeld.1.lt, hHeld.2.1.below bx hHeld.2.1.lt, hHeld.2.2.below bx hHeld.2.2.lt⟩
          have r1 := r1.below bx r1.lt
          have r2 := r2.below bx r2.lt
          have ko := ko.below bx ko.lt
          have B3 := B3.trans (bx.mono B3.size)
          clear bx
          refine ⟨_, rfl, hHeld, ?_⟩
          try simp only [Act.put, List.setIfInBounds_toArray, List.set_cons_zero, List.set_cons_succ]
          have oko : Own w9 go [o] := ⟨ko.lt, fun j hj => ko.get (by rw [cellsL, List.getElem?_map, List.getD_eq_getElem?_getD, List.getElem?_eq_getElem hj]; rfl), ko.free⟩
          have hj := join_any w9 ⟨p1, 0, none⟩ ⟨p2, 0, none⟩ ⟨p3, 0, none⟩ ⟨go, 0, none⟩ c1 c2 c3 1 (127 :: C) (127 :: B) (127 :: A) [o] (by have := r1.rd (D.Dig.cons (by omega) dC); simpa [lC] using this) (by have := r2.rd (D.Dig.cons (by omega) dB); simpa [lB] using this) (by have := r3.rd (D.Dig.cons (by omega) dA); simpa [lA] using this) (oko.rd (D.Dig.cons (by omega) D.Dig.nil))
          refine wpAnyH_one 8 (by kernel_rfl) rfl rfl ?_
          refine wp_callR Safg.func6 (by kernel_rfl) (by kernel_rfl) hj rfl rfl ?_
          rintro e w20 ⟨gj, cj, rfl, hgj, oj, bx⟩
          have hHeld : Own w20 g5 A ∧ Own w20 g6 B ∧ Own w20 g7 C := ⟨hHeld.1.below bx hHeld.1.lt, hHeld.2.1.below bx hHeld.2.1.lt, hHeld.2.2.below bx hHeld.2.2.lt⟩
          have B3 := B3.trans (bx.mono B3.size)
          clear bx
          have oj : Own w20 gj (codeL A B C o) := oj
          rw [HCC.out] at oj
          refine ⟨_, rfl, hHeld, ?_⟩
          try simp only [Act.put, List.setIfInBounds_toArray, List.set_cons_zero, List.set_cons_succ]
          refine wpAnyH_one 9 (by kernel_rfl) rfl rfl ?_
          refine wp_callR Safg.func5 (by kernel_rfl) (by kernel_rfl) (machOn_any w20 gj cj o CC oj hC4 dCC) rfl rfl ?_
          rintro e w21 ⟨gm, gv, gk, rfl, hgm, R21, bx⟩
          have fgm : w.heap.size ≤ gm ∧ g5 ∉ [gm] ∧ g6 ∉ [gm] ∧ g7 ∉ [gm] := by have := hHeld.1.lt; have := hHeld.2.1.lt; have := hHeld.2.2.lt; have := B3.size; refine ⟨by omega, by simp; omega, by simp; omega, by simp; omega⟩
          have hHeld : Own w21 g5 A ∧ Own w21 g6 B ∧ Own w21 g7 C := ⟨hHeld.1.below bx hHeld.1.lt, hHeld.2.1.below bx hHeld.2.1.lt, hHeld.2.2.below bx hHeld.2.2.lt⟩
          have B3 := B3.trans (bx.mono B3.size)
          clear bx
          refine ⟨_, rfl, hHeld, ?_⟩
          try simp only [Act.put, List.setIfInBounds_toArray, List.set_cons_zero, List.set_cons_succ]
          refine wpAnyH_take' (i := 10) (d := 27) rfl rfl (by kernel_rfl) (by kernel_rfl) (by kernel_rfl) (fun _ _ _ h => h) (Or.inl ⟨by rfl, fun w hw => by go_simp; try rfl⟩) hHeld ?_
          try simp only [Act.put, List.setIfInBounds_toArray, List.set_cons_zero, List.set_cons_succ]
          refine wpAnyH_take' (i := 11) (d := 38) rfl rfl (by kernel_rfl) (by kernel_rfl) (by kernel_rfl) (fun _ _ _ h => h) (Or.inl ⟨by rfl, fun w hw => by go_simp; try rfl⟩) hHeld ?_
          try simp only [Act.put, List.setIfInBounds_toArray, List.set_cons_zero, List.set_cons_succ]
          refine wpAnyH_take' (i := 12) (d := 39) rfl rfl (by kernel_rfl) (by kernel_rfl) (by kernel_rfl) (fun _ _ _ h => h) (Or.inl ⟨by rfl, fun w hw => by go_simp; try rfl⟩) hHeld ?_
          try simp only [Act.put, List.setIfInBounds_toArray, List.set_cons_zero, List.set_cons_succ]
          refine wpAnyH_take' (i := 13) (d := 9) rfl rfl (by kernel_rfl) (by kernel_rfl) (by kernel_rfl) (fun _ _ _ h => h) (Or.inl ⟨by rfl, fun w hw => by go_simp; try rfl⟩) hHeld ?_
          try simp only [Act.put, List.setIfInBounds_toArray, List.set_cons_zero, List.set_cons_succ]
          refine wpAnyH_take' (i := 14) (d := 10) rfl rfl (by kernel_rfl) (by kernel_rfl) (by kernel_rfl) (fun _ _ _ h => h) (Or.inl ⟨by rfl, fun w hw => by go_simp; try rfl⟩) hHeld ?_
          try simp only [Act.put, List.setIfInBounds_toArray, List.set_cons_zero, List.set_cons_succ]
          refine wpAnyH_done (by kernel_rfl) ?_ _
          exact NormQ.mk ⟨p1, c1, p2, c2, p3, c3, go, gj, cj, gm, rfl, fgm, ⟨gv, gk, R21⟩, hHeld, B3⟩
      · refine wpList_slice1v rfl 26 5 (.tmp 34) rfl (.int .u8 (o : Int)) (cellsL [o]) rfl rfl Safg.underlying26 Safg.size5 Safg.zcells5 (by show 0 < 1; omega) (by show 1 ≤ 65536; omega) ?_
        intro w10 go hgo ko bx
        have hHeld : Own w10 g5 A ∧ Own w10 g6 B ∧ Own w10 g7 C := ⟨hHeld.1.below bx hHeld.1.lt, hHeld.2.1.below bx hHeld.2.1.lt, hHeld.2.2.below bx hHeld.2.2.lt⟩
        have r1 := r1.below bx r1.lt
        have B3 := B3.trans (bx.mono B3.size)
        clear bx
        refine backTo.nil hHeld ?_
        try simp only [Act.put, List.setIfInBounds_toArray, List.set_cons_zero, List.set_cons_succ]
        refine wpAnyH_one 3 (by kernel_rfl) rfl rfl ?_
        refine wp_callR Safg.func7 (by kernel_rfl) (by kernel_rfl) (push32_any w10 B lB dB) rfl rfl ?_
        rintro e w11 ⟨p2, c2, rfl, hp2, r2, bx⟩
        have hHeld : Own w11 g5 A ∧ Own w11 g6 B ∧ Own w11 g7 C := ⟨hHeld.1.below bx hHeld.1.lt, hHeld.2.1.below bx hHeld.2.1.lt, hHeld.2.2.below bx hHeld.2.2.lt⟩
        have r1 := r1.below bx r1.lt
        have ko := ko.below bx ko.lt
        have B3 := B3.trans (bx.mono B3.size)
        clear bx
        refine ⟨_, rfl, hHeld, ?_⟩
        try simp only [Act.put, List.setIfInBounds_toArray, List.set_cons_zero, List.set_cons_succ]
        refine wpAnyH_one 5 (by kernel_rfl) rfl rfl ?_
        refine wp_callR Safg.func7 (by kernel_rfl) (by kernel_rfl) (push32_any w11 A lA dA) rfl rfl ?_
        rintro e w12 ⟨p3, c3, rfl, hp3, r3, bx⟩
        have hHeld : Own w12 g5 A ∧ Own w12 g6 B ∧ Own w12 g7 C := ⟨hHeld.1.below bx hHeld.1.lt, hHeld.2.1.below bx hHeld.2.1.lt, hHeld.2.2.below bx hHeld.2.2.lt⟩
        have r1 := r1.below bx r1.lt
        have ko := ko.below bx ko.lt
        have r2 := r2.below bx r2.lt
        have B3 := B3.trans (bx.mono B3.size)
        clear bx
        refine ⟨_, rfl, hHeld, ?_⟩
        try simp only [Act.put, List.setIfInBounds_toArray, List.set_cons_zero, List.set_cons_succ]
        have oko : Own w12 go [o] := ⟨ko.lt, fun j hj => ko.get (by rw [cellsL, List.getElem?_map, List.getD_eq_getElem?_getD, List.getElem?_eq_getElem hj]; rfl), ko.free⟩
        have hj := join_any w12 ⟨p1, 0, none⟩ ⟨p2, 0, none⟩ ⟨p3, 0, none⟩ ⟨go, 0, none⟩ c1 c2 c3 1 (127 :: C) (127 :: B) (127 :: A) [o] (by have := r1.rd (D.Dig.cons (by omega) dC); simpa [lC] using this) (by have := r2.rd (D.Dig.cons (by omega) dB); simpa [lB] using this) (by have := r3.rd (D.Dig.cons (by omega) dA); simpa [lA] using this) (oko.rd (D.Dig.cons (by omega) D.Dig.nil))
        refine wpAnyH_one 8 (by kernel_rfl) rfl rfl ?_
        refine wp_callR Safg.func6 (by kernel_rfl) (by kernel_rfl) hj rfl rfl ?_
        rintro e w20 ⟨gj, cj, rfl, hgj, oj, bx⟩
        have hHeld : Own w20 g5 A ∧ Own w20 g6 B ∧ Own w20 g7 C := ⟨hHeld.1.below bx hHeld.1.lt, hHeld.2.1.below bx hHeld.2.1.lt, hHeld.2.2.below bx hHeld.2.2.lt⟩
        have B3 := B3.trans (bx.mono B3.size)
        clear bx
        have oj : Own w20 gj (codeL A B C o) := oj
        rw [HCC.out] at oj
        refine ⟨_, rfl, hHeld, ?_⟩
        try simp only [Act.put, List.setIfInBounds_toArray, List.set_cons_zero, List.set_cons_succ]
        refine wpAnyH_one 9 (by kernel_rfl) rfl rfl ?_
        refine wp_callR Safg.func5 (by kernel_rfl) (by kernel_rfl) (machOn_any w20 gj cj o CC oj hC4 dCC) rfl rfl ?_
        rintro e w21 ⟨gm, gv, gk, rfl, hgm, R21, bx⟩
        have fgm : w.heap.size ≤ gm ∧ g5 ∉ [gm] ∧ g6 ∉ [gm] ∧ g7 ∉ [gm] := by have := hHeld.1.lt; have := hHeld.2.1.lt; have := hHeld.2.2.lt; have := B3.size; refine ⟨by omega, by simp; omega, by simp; omega, by simp; omega⟩
        have hHeld : Own w21 g5 A ∧ Own w21 g6 B ∧ Own w21 g7 C := ⟨hHeld.1.below bx hHeld.1.lt, hHeld.2.1.below bx hHeld.2.1.lt, hHeld.2.2.below bx hHeld.2.2.lt⟩
        have B3 := B3.trans (bx.mono B3.size)
        clear bx
        refine ⟨_, rfl, hHeld, ?_⟩
        try simp only [Act.put, List.setIfInBounds_toArray, List.set_cons_zero, List.set_cons_succ]
        refine wpAnyH_take' (i := 10) (d := 27) rfl rfl (by kernel_rfl) (by kernel_rfl) (by kernel_rfl) (fun _ _ _ h => h) (Or.inl ⟨by rfl, fun w hw => by go_simp; try rfl⟩) hHeld ?_
        try simp only [Act.put, List.setIfInBounds_toArray, List.set_cons_zero, List.set_cons_succ]
        refine wpAnyH_take' (i := 11) (d := 38) rfl rfl (by kernel_rfl) (by kernel_rfl) (by kernel_rfl) (fun _ _ _ h => h) (Or.inl ⟨by rfl, fun w hw => by go_simp; try rfl⟩) hHeld ?_
        try simp only [Act.put, List.setIfInBounds_toArray, List.set_cons_zero, List.set_cons_succ]
        refine wpAnyH_take' (i := 12) (d := 39) rfl rfl (by kernel_rfl) (by kernel_rfl) (by kernel_rfl) (fun _ _ _ h => h) (Or.inl ⟨by rfl, fun w hw => by go_simp; try rfl⟩) hHeld ?_
        try simp only [Act.put, List.setIfInBounds_toArray, List.set_cons_zero, List.set_cons_succ]
        refine wpAnyH_take' (i := 13) (d := 9) rfl rfl (by kernel_rfl) (by kernel_rfl) (by kernel_rfl) (fun _ _ _ h => h) (Or.inl ⟨by rfl, fun w hw => by go_simp; try rfl⟩) hHeld ?_
        try simp only [Act.put, List.setIfInBounds_toArray, List.set_cons_zero, List.set_cons_succ]
        refine wpAnyH_take' (i := 14) (d := 10) rfl rfl (by kernel_rfl) (by kernel_rfl) (by kernel_rfl) (fun _ _ _ h => h) (Or.inl ⟨by rfl, fun w hw => by go_simp; try rfl⟩) hHeld ?_
        try simp only [Act.put, List.setIfInBounds_toArray, List.set_cons_zero, List.set_cons_succ]
        refine wpAnyH_done (by kernel_rfl) ?_ _
        exact NormQ.mk ⟨p1, c1, p2, c2, p3, c3, go, gj, cj, gm, rfl, fgm, ⟨gv, gk, R21⟩, hHeld, B3⟩
    · refine wpList_slice1v rfl 26 5 (.tmp 34) rfl (.int .u8 (o : Int)) (cellsL [o]) rfl rfl Safg.underlying26 Safg.size5 Safg.zcells5 (by show 0 < 1; omega) (by show 1 ≤ 65536; omega) ?_
      intro w13 go hgo ko bx
      have hHeld : Own w13 g5 A ∧ Own w13 g6 B ∧ Own w13 g7 C := ⟨hHeld.1.below bx hHeld.1.lt, hHeld.2.1.below bx hHeld.2.1.lt, hHeld.2.2.below bx hHeld.2.2.lt⟩
      have B3 := B3.trans (bx.mono B3.size)
      clear bx
      refine backTo.nil hHeld ?_
      try simp only [Act.put, List.setIfInBounds_toArray, List.set_cons_zero, List.set_cons_succ]
      refine wpAnyH_one 1 (by kernel_rfl) rfl rfl ?_
      refine wp_callR Safg.func7 (by kernel_rfl) (by kernel_rfl) (push32_any w13 C lC dC) rfl rfl ?_
      rintro e w14 ⟨p1, c1, rfl, hp1, r1, bx⟩
      have hHeld : Own w14 g5 A ∧ Own w14 g6 B ∧ Own w14 g7 C := ⟨hHeld.1.below bx hHeld.1.lt, hHeld.2.1.below bx hHeld.2.1.lt, hHeld.2.2.below bx hHeld.2.2.lt⟩
      have ko := ko.below bx ko.lt
      have B3 := B3.trans (bx.mono B3.size)
      clear bx
      refine ⟨_, rfl, hHeld, ?_⟩
      try simp only [Act.put, List.setIfInBounds_toArray, List.set_cons_zero, List.set_cons_succ]
      refine wpAnyH_one 3 (by kernel_rfl) rfl rfl ?_
      refine wp_callR Safg.func7 (by kernel_rfl) (by kernel_rfl) (push32_any w14 B lB dB) rfl rfl ?_
      rintro e w15 ⟨p2, c2, rfl, hp2, r2, bx⟩
      have hHeld : Own w15 g5 A ∧ Own w15 g6 B ∧ Own w15 g7 C := ⟨hHeld.1.below bx hHeld.1.lt, hHeld.2.1.below bx hHeld.2.1.lt, hHeld.2.2.below bx hHeld.2.2.lt⟩
      have ko := ko.below bx ko.lt
      have r1 := r1.below bx r1.lt
      have B3 := B3.trans (bx.mono B3.size)
      clear bx
      refine ⟨_, rfl, hHeld, ?_⟩
      try simp only [Act.put, List.setIfInBounds_toArray, List.set_cons_zero, List.set_cons_succ]
      refine wpAnyH_one 5 (by kernel_rfl) rfl rfl ?_
      refine wp_callR Safg.func7 (by kernel_rfl) (by kernel_rfl) (push32_any w15 A lA dA) rfl rfl ?_
      rintro e w16 ⟨p3, c3, rfl, hp3, r3, bx⟩
      have hHeld : Own w16 g5 A ∧ Own w16 g6 B ∧ Own w16 g7 C := ⟨hHeld.1.below bx hHeld.1.lt, hHeld.2.1.below bx hHeld.2.1.lt, hHeld.2.2.below bx hHeld.2.2.lt⟩
      have ko := ko.below bx ko.lt
      have r1 := r1.below bx r1.lt
      have r2 := r2.below bx r2.lt
      have B3 := B3.trans (bx.mono B3.size)
      clear bx
      refine ⟨_, rfl, hHeld, ?_⟩
      try simp only [Act.put, List.setIfInBounds_toArray, List.set_cons_zero, List.set_cons_succ]
      have oko : Own w16 go [o] := ⟨ko.lt, fun j hj => ko.get (by rw [cellsL, List.getElem?_map, List.getD_eq_getElem?_getD, List.getElem?_eq_getElem hj]; rfl), ko.free⟩
      have hj := join_any w16 ⟨p1, 0, none⟩ ⟨p2, 0, none⟩ ⟨p3, 0, none⟩ ⟨go, 0, none⟩ c1 c2 c3 1 (127 :: C) (127 :: B) (127 :: A) [o] (by have := r1.rd (D.Dig.cons (by omega) dC); simpa [lC] using this) (by have := r2.rd (D.Dig.cons (by omega) dB); simpa [lB] using this) (by have := r3.rd (D.Dig.cons (by omega) dA); simpa [lA] using this) (oko.rd (D.Dig.cons (by omega) D.Dig.nil))
      refine wpAnyH_one 8 (by kernel_rfl) rfl rfl ?_
      refine wp_callR Safg.func6 (by kernel_rfl) (by kernel_rfl) hj rfl rfl ?_
      rintro e w20 ⟨gj, cj, rfl, hgj, oj, bx⟩
      have hHeld : Own w20 g5 A ∧ Own w20 g6 B ∧ Own w20 g7 C := ⟨hHeld.1.below bx hHeld.1.lt, hHeld.2.1.below bx hHeld.2.1.lt, hHeld.2.2.below bx hHeld.2.2.lt⟩
      have B3 := B3.trans (bx.mono B3.size)
      clear bx
      have oj : Own w20 gj (codeL A B C o) := oj
      rw [HCC.out] at oj
      refine ⟨_, rfl, hHeld, ?_⟩
      try simp only [Act.put, List.setIfInBounds_toArray, List.set_cons_zero, List.set_cons_succ]
      refine wpAnyH_one 9 (by kernel_rfl) rfl rfl ?_
      refine wp_callR Safg.func5 (by kernel_rfl) (by kernel_rfl) (machOn_any w20 gj cj o CC oj hC4 dCC) rfl rfl ?_
      rintro e w21 ⟨gm, gv, gk, rfl, hgm, R21, bx⟩
      have fgm : w.heap.size ≤ gm ∧ g5 ∉ [gm] ∧ g6 ∉ [gm] ∧ g7 ∉ [gm] := by have := hHeld.1.lt; have := hHeld.2.1.lt; have := hHeld.2.2.lt; have := B3.size; refine ⟨by omega, by simp; omega, by simp; omega, by simp; omega⟩
      have hHeld : Own w21 g5 A ∧ Own w21 g6 B ∧ Own w21 g7 C := ⟨hHeld.1.below bx hHeld.1.lt, hHeld.2.1.below bx hHeld.2.1.lt, hHeld.2.2.below bx hHeld.2.2.lt⟩
      have B3 := B3.trans (bx.mono B3.size)
      clear bx
      refine ⟨_, rfl, hHeld, ?_⟩
      try simp only [Act.put, List.setIfInBounds_toArray, List.set_cons_zero, List.set_cons_succ]
      refine wpAnyH_take' (i := 10) (d := 27) rfl rfl (by kernel_rfl) (by kernel_rfl) (by kernel_rfl) (fun _ _ _ h => h) (Or.inl ⟨by rfl, fun w hw => by go_simp; try rfl⟩) hHeld ?_
      try simp only [Act.put, List.setIfInBounds_toArray, List.set_cons_zero, List.set_cons_succ]
      refine wpAnyH_take' (i := 11) (d := 38) rfl rfl (by kernel_rfl) (by kernel_rfl) (by kernel_rfl) (fun _ _ _ h => h) (Or.inl ⟨by rfl, fun w hw => by go_simp; try rfl⟩) hHeld ?_
      try simp only [Act.put, List.setIfInBounds_toArray, List.set_cons_zero, List.set_cons_succ]
      refine wpAnyH_take' (i := 12) (d := 39) rfl rfl (by kernel_rfl) (by kernel_rfl) (by kernel_rfl) (fun _ _ _ h => h) (Or.inl ⟨by rfl, fun w hw => by go_simp; try rfl⟩) hHeld ?_
      try simp only [Act.put, List.setIfInBounds_toArray, List.set_cons_zero, List.set_cons_succ]
      refine wpAnyH_take' (i := 13) (d := 9) rfl rfl (by kernel_rfl) (by kernel_rfl) (by kernel_rfl) (fun _ _ _ h => h) (Or.inl ⟨by rfl, fun w hw => by go_simp; try rfl⟩) hHeld ?_
      try simp only [Act.put, List.setIfInBounds_toArray, List.set_cons_zero, List.set_cons_succ]
      refine wpAnyH_take' (i := 14) (d := 10) rfl rfl (by kernel_rfl) (by kernel_rfl) (by kernel_rfl) (fun _ _ _ h => h) (Or.inl ⟨by rfl, fun w hw => by go_simp; try rfl⟩) hHeld ?_
      try simp only [Act.put, List.setIfInBounds_toArray, List.set_cons_zero, List.set_cons_succ]
      refine wpAnyH_done (by kernel_rfl) ?_ _
      exact NormQ.mk ⟨p1, c1, p2, c2, p3, c3, go, gj, cj, gm, rfl, fgm, ⟨gv, gk, R21⟩, hHeld, B3⟩
  case hn =>
    intro x1 x2 x3 x4 x5 x6 x7 x8 x9 gm w4 ⟨⟨lgm, n5m, n6m, n7m⟩, ⟨gv, gk, R4⟩, K4, B4⟩
    clear hHeld B3
    have H1 := step_push_0 w4 gm gv gk 179000 o (fun _ => Wd4.zero) CC (adr 1) (adr 240) R4 hC4 dCC (by omega) (by omega)
    rw [hLC] at H1
    go_upto_region 6 with (first | (go_at_call 8; refine H1.mono ?_; rintro e w5 ⟨rfl, R5, T5⟩; have H2 := step_push_33 w5 gm gv gk 178997 o _ CC (adr 1) (adr 240) R5 hC4 dCC (by omega) (by omega); rw [hLB] at H2; clear H1) | (go_at_call 8; refine H2.mono ?_; rintro e w6 ⟨rfl, R6, T6⟩; have H3 := step_push_66 w6 gm gv gk 178994 o _ CC (adr 1) (adr 240) R6 hC4 dCC (by omega) (by omega); rw [hLA] at H3; clear H2) | (go_at_call 8; refine H3.mono ?_; rintro e w7 ⟨rfl, R7, T7⟩))
    have T7 : Turn [gm] w4 w7 := (T5.trans T6).trans T7
    have K7 : Own w7 g5 A ∧ Own w7 g6 B ∧ Own w7 g7 C := ⟨T7.own K4.1 n5m, T7.own K4.2.1 n6m, T7.own K4.2.2 n7m⟩
    have B7 := B4.trans (T7.below B4.size (by intro i hi; obtain rfl : i = gm := (by simpa using hi); exact lgm))
    clear T5 T6 T7 R4 R5 R6 K4 B4 H3
    obtain ⟨ws, hws⟩ : ∃ f : Nat → Wd4, MF.lay (MF.lay (MF.lay (fun _ => Wd4.zero) 0 (wdOf C)) 1 (wdOf B)) 2 (wdOf A) = f := ⟨_, rfl⟩
    have e0 : ws 0 = wdOf C := by rw [← hws]; rfl
    have e1 : ws 1 = wdOf B := by rw [← hws]; rfl
    have e2 : ws 2 = wdOf A := by rw [← hws]; rfl
    have R7 : Run w7 gm gv gk 99 3 178991 ws CC (adr 1) (adr 240) := by rw [← hws]; exact R7
    clear hws
    have HV := view_any w7 gm gv gk 99 3 178991 ws CC R7 (.inr (.inr rfl)) (by omega) (by omega)
    go_upto_region 7 with (first | (go_at_call 9; refine HV.mono ?_; rintro e w8 ⟨gB, rfl, hgB, sB, b8⟩) | (refine wpList_alloc_agg rfl 36 rfl _ Safg.zero36 ?_; intro w9 g11 hg11 k11 b9) | (refine wpList_store_agg rfl 36 (.tmp 11) _ rfl g11 rfl v0 (vL 99 178991 (.slice (some ⟨gB, 0, none⟩) 3 3)) rfl k11 rfl Safg.size36 (vL_one _ _ _ rfl) ?_; intro w10 k10 n10))
    have s8 := b8.size
    have b79 : Below w7.heap.size w7 w9 := b8.trans (b9.mono s8)
    have lgm7 : gm < w7.heap.size := by obtain ⟨f, m, _⟩ := R7.m; exact m.lt
    have lgv7 := R7.lv
    have lgk7 := R7.own.lt
    have l57 := K7.1.lt
    have l67 := K7.2.1.lt
    have l77 := K7.2.2.lt
    have lB8 := sB.lt
    have h11 : w7.heap.size ≤ g11 := Nat.le_trans s8 hg11
    have B10 := (B7.trans (b79.mono B7.size)).trans (n10.below (Nat.le_trans B7.size h11))
    have b710 : Below w7.heap.size w7 w10 := b79.trans (n10.below h11)
    have R10 := R7.below b710
    have K10 : Own w10 g5 A ∧ Own w10 g6 B ∧ Own w10 g7 C := ⟨K7.1.below b710 l57, K7.2.1.below b710 l67, K7.2.2.below b710 l77⟩
    have sB10 := (sB.below b9).turn (Turn.of_only n10) (by simp; omega)
    have nBm : gB ∉ [gm] := by simp; omega
    have n11m : g11 ∉ [gm] := by simp; omega
    have n5m : g5 ∉ [gm] := n5m
    clear b8 b9 n10 b79 b710 K7 B7 R7 HV sB k11
    obtain ⟨m, hm, h32⟩ : ∃ m, Bytes (wdOf B).val m ∧ m ≤ 32 := by
      have h1 := bytes_trim (l := B.reverse) (fun x hx => dB x (List.mem_reverse.1 hx))
      rw [← val_wdOf lB] at h1
      exact ⟨_, h1, by have := D.trimL_len B.reverse; rw [List.length_reverse] at this; omega⟩
    have HB : Hid (Bytes (wdOf B).val m) := hm
    refine wp_region_held_drew (S := fun w' => (Own w' g5 A ∧ Own w' g6 B ∧ Own w' g7 C) ∧ Blk w' g11 (vL 99 178991 (.slice (some ⟨gB, 0, none⟩) 3 3))) (by kernel_rfl) ⟨⟨(Same.drew w10).own K10.1, (Same.drew w10).own K10.2.1, (Same.drew w10).own K10.2.2⟩, (Same.drew w10).blk k10⟩ (fun hHeld => ?_)
    have R10 := R10.drew
    have sB10 := sB10.below (Turn.drew_below w10)
    have B10 := B10.trans ((Turn.drew_below w10).mono B10.size)
    clear K10 k10
    generalize w10.drew = w10 at *
    refine wpAnyH_take' (i := 0) (d := 59) rfl rfl (by kernel_rfl) (by kernel_rfl) (by kernel_rfl) (fun _ _ _ h => h) (Or.inl ⟨by rfl, fun w hw => by go_simp; try rfl⟩) hHeld ?_
    try simp only [Act.put, List.setIfInBounds_toArray, List.set_cons_zero, List.set_cons_succ]
    refine wpAnyH_one 1 (by kernel_rfl) rfl rfl ?_
    refine wp_callR Safg.func8 (by kernel_rfl) (by kernel_rfl) (step_alu w10 gm gv gk 178991 o m ws CC (adr 1) (adr 240) ha R10 hC4 (by rw [e1]; exact HB.out) h32 (by omega) (by omega)) rfl rfl ?_
    rintro e w11 ⟨s, sok, sv, rfl, R11, T11⟩
    rw [e0, e1, e2] at sv
    have SV : Hid (s.val = aluW o (wdOf A).val (wdOf B).val (wdOf C).val) := sv
    clear sv hm
    have S11 : (Own w11 g5 A ∧ Own w11 g6 B ∧ Own w11 g7 C) ∧ Blk w11 g11 (vL 99 178991 (.slice (some ⟨gB, 0, none⟩) 3 3)) := ⟨⟨T11.own hHeld.1.1 n5m, T11.own hHeld.1.2.1 n6m, T11.own hHeld.1.2.2 n7m⟩, OS.blk_turn hHeld.2 T11 n11m⟩
    have sB11 := sB10.turn T11 nBm
    have B11 := B10.trans (T11.below B10.size (by intro i hi; obtain rfl : i = gm := (by simpa using hi); exact lgm))
    refine ⟨_, rfl, S11, ?_⟩
    try simp only [Act.put, List.setIfInBounds_toArray, List.set_cons_zero, List.set_cons_succ]
    refine wpAnyH_take' (i := 2) (d := 61) rfl rfl (by kernel_rfl) (by kernel_rfl) (by kernel_rfl) (fun _ _ _ h => h) (Or.inl ⟨by rfl, fun w hw => by go_simp; try rfl⟩) S11 ?_
    try simp only [Act.put, List.setIfInBounds_toArray, List.set_cons_zero, List.set_cons_succ]
    refine wpAnyH_take' (i := 3) (d := 62) rfl rfl (by kernel_rfl) (by kernel_rfl) (by kernel_rfl) (fun _ _ _ h => h) (Or.inl ⟨by rfl, fun w hw => by go_simp; try rfl⟩) S11 ?_
    try simp only [Act.put, List.setIfInBounds_toArray, List.set_cons_zero, List.set_cons_succ]
    refine wpAnyH_take' (i := 4) (d := 63) rfl rfl (by kernel_rfl) (by kernel_rfl) (by kernel_rfl) (fun _ _ _ h => h) (yieldsIf_load_mid (by rfl) 22 _ rfl g5 0 rfl (cellsL A) _ (fun w hw => hw.1.1.range) Safg.underlying22 rfl (by rw [cellsL_length, lA]; exact Safg.size22)) S11 ?_
    try simp only [Act.put, List.setIfInBounds_toArray, List.set_cons_zero, List.set_cons_succ]
    refine wpAnyH_take' (i := 5) (d := 64) rfl rfl (by kernel_rfl) (by kernel_rfl) (by kernel_rfl) (fun _ _ _ h => h) (yieldsIf_load_mid (by rfl) 22 _ rfl g6 0 rfl (cellsL B) _ (fun w hw => hw.1.2.1.range) Safg.underlying22 rfl (by rw [cellsL_length, lB]; exact Safg.size22)) S11 ?_
    try simp only [Act.put, List.setIfInBounds_toArray, List.set_cons_zero, List.set_cons_succ]
    refine wpAnyH_take' (i := 6) (d := 65) rfl rfl (by kernel_rfl) (by kernel_rfl) (by kernel_rfl) (fun _ _ _ h => h) (yieldsIf_load_mid (by rfl) 22 _ rfl g7 0 rfl (cellsL C) _ (fun w hw => hw.1.2.2.range) Safg.underlying22 rfl (by rw [cellsL_length, lC]; exact Safg.size22)) S11 ?_
    try simp only [Act.put, List.setIfInBounds_toArray, List.set_cons_zero, List.set_cons_succ]
    refine wpAnyH_take' (i := 7) (d := 66) rfl rfl (by kernel_rfl) (by kernel_rfl) (by kernel_rfl) (fun _ _ _ h => h) (yieldsIf_load_mid (by rfl) 36 _ rfl g11 0 rfl (vL 99 178991 (.slice (some ⟨gB, 0, none⟩) 3 3)) _ (fun w hw => hw.2.cell) u36 rfl Safg.size36) S11 ?_
    try simp only [Act.put, List.setIfInBounds_toArray, List.set_cons_zero, List.set_cons_succ]
    refine wpAnyH_take' (i := 8) (d := 67) rfl rfl (by kernel_rfl) (by kernel_rfl) (by kernel_rfl) (fun _ _ _ h => h) (Or.inl ⟨by rfl, fun w hw => by go_simp; try rfl⟩) S11 ?_
    try simp only [Act.put, List.setIfInBounds_toArray, List.set_cons_zero, List.set_cons_succ]
    obtain ⟨gas', hgas'⟩ : ∃ g, 178991 - costN o m = g := ⟨_, rfl⟩
    have HG : Hid (178991 - costN o m = gas') := hgas'
    obtain ⟨kk, hkk⟩ : ∃ k, 3 - takesN o + 1 = k := ⟨_, rfl⟩
    have HK' : Hid (3 - takesN o + 1 = kk) := hkk
    have hk3 : kk = 1 ∨ kk = 2 ∨ kk = 3 := by rcases takes_cases o with h | h | h <;> omega
    have hg' : gas' < 18446744073709551616 := by omega
    rw [hgas', hkk] at R11
    clear hgas' hkk
    refine wpAnyH_oneG 9 (by kernel_rfl) rfl (by rfl) ?_
    refine wp_callR Safg.func9 (by kernel_rfl) (by kernel_rfl) (view_any w11 gm gv gk 100 kk gas' _ CC R11 hk3 (by omega) hg') rfl rfl ?_
    rintro e w12 ⟨gS, rfl, hgS, sS, b12⟩
    have S12 : (Own w12 g5 A ∧ Own w12 g6 B ∧ Own w12 g7 C) ∧ Blk w12 g11 (vL 99 178991 (.slice (some ⟨gB, 0, none⟩) 3 3)) := ⟨⟨S11.1.1.below b12 S11.1.1.lt, S11.1.2.1.below b12 S11.1.2.1.lt, S11.1.2.2.below b12 S11.1.2.2.lt⟩, S11.2.below b12 S11.2.lt⟩
    have sB12 := sB11.below b12
    have B12 := B11.trans (b12.mono B11.size)
    refine ⟨_, rfl, S12, ?_⟩
    try simp only [Act.put, List.setIfInBounds_toArray, List.set_cons_zero, List.set_cons_succ]
    have HH : Calls Safg.prog 10 #[.int .u8 (o : Int), arrV A, arrV B, arrV C, .agg (vL 99 178991 (.slice (some ⟨gB, 0, none⟩) 3 3)).toArray, .agg (vL 100 gas' (.slice (some ⟨gS, 0, none⟩) kk kk)).toArray] w12 fun e w' => e = .returned (.bool true) ∧ Below w12.heap.size w12 w' := by
      have h := hold_any w12 o ha A B C lA lB lC dA dB dC gB gS 178991 m s sok SV.out ws HB.out h32 (by omega) (by omega) sB12 (by rw [HK'.out]; exact sS)
      rw [HG.out, HK'.out] at h
      exact h
    refine wpAnyH_oneG 10 (by kernel_rfl) rfl (by rfl) ?_
    refine wp_callR Safg.func10 (by kernel_rfl) (by kernel_rfl) HH rfl rfl ?_
    rintro e w13 ⟨rfl, b13⟩
    have S13 : (Own w13 g5 A ∧ Own w13 g6 B ∧ Own w13 g7 C) ∧ Blk w13 g11 (vL 99 178991 (.slice (some ⟨gB, 0, none⟩) 3 3)) := ⟨⟨S12.1.1.below b13 S12.1.1.lt, S12.1.2.1.below b13 S12.1.2.1.lt, S12.1.2.2.below b13 S12.1.2.2.lt⟩, S12.2.below b13 S12.2.lt⟩
    refine ⟨_, rfl, S13, ?_⟩
    try simp only [Act.put, List.setIfInBounds_toArray, List.set_cons_zero, List.set_cons_succ]
    refine wpAnyH_take' (i := 11) (d := 70) rfl rfl (by kernel_rfl) (by kernel_rfl) (by kernel_rfl) (fun _ _ _ h => h) (Or.inl ⟨by rfl, fun w hw => by go_simp; try rfl⟩) S13 ?_
    try simp only [Act.put, List.setIfInBounds_toArray, List.set_cons_zero, List.set_cons_succ]
    refine wpAnyH_take' (i := 12) (d := 8) rfl rfl (by kernel_rfl) (by kernel_rfl) (by kernel_rfl) (fun _ _ _ h => h) (Or.inl ⟨by rfl, fun w hw => by go_simp; try rfl⟩) S13 ?_
    try simp only [Act.put, List.setIfInBounds_toArray, List.set_cons_zero, List.set_cons_succ]
    refine wpAnyH_done (by kernel_rfl) ?_ _
    go_wp2
    go_ret
    exact ⟨rfl, B12.trans (b13.mono B12.size)⟩
theorem walk_any (w : World) (o : Nat) (A B C : List Nat) (lA : A.length = 32) (lB : B.length = 32) (lC : C.length = 32) (dA : D.Dig A) (dB : D.Dig B) (dC : D.Dig C) :
    Calls Safg.prog 3 #[.int .u8 (o : Int), arrV A, arrV B, arrV C] w fun e w' => e = .returned (.bool true) ∧ Below w.heap.size w w' := by
  rcases (by omega : o = 0 ∨ (1 ≤ o ∧ o ≤ 11) ∨ (12 ≤ o ∧ o ≤ 15) ∨ (16 ≤ o ∧ o ≤ 29) ∨ 30 ≤ o) with h | h | h | h | h
  · exact walk_z w o h A B C lA lB lC dA dB dC
  · exact walk_1 w o h A B C lA lB lC dA dB dC
  · exact walk_m w o h A B C lA lB lC dA dB dC
  · exact walk_2 w o h A B C lA lB lC dA dB dC
  · exact walk_h w o h A B C lA lB lC dA dB dC
end Go.Proofs.YgcsafGreat
