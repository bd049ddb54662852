/-
  law.aluStepHolds (10): the case 2.
-/
import Derived.Test.YgcsafGreatHoldA
namespace Go.Proofs.YgcsafGreat
open Go.RowKit
set_option linter.unusedVariables false
set_option linter.unusedSimpArgs false
attribute [local irreducible] beL wdOf Wd4.val aluW

set_option maxRecDepth 100000 in
set_option maxHeartbeats 16000000 in
theorem hold_2 (w : World) (o : Nat) (ho : AluOp o) (A B C : List Nat) (lA : A.length = 32) (lB : B.length = 32) (lC : C.length = 32) (dA : D.Dig A) (dB : D.Dig B) (dC : D.Dig C) (gB gS gas m : Nat) (s : Wd4) (sok : s.Ok) (sv : s.val = aluW o (wdOf A).val (wdOf B).val (wdOf C).val) (ws : Nat → Wd4) (hm : Bytes (wdOf B).val m) (h32 : m ≤ 32) (hg : gas < 18446744073709551616) (hgm : 1610 ≤ gas)
    (sB : StB w gB 3 3 ws) (sS : StB w gS 2 2 (MF.lay ws 1 s)) (htk : takesN o = 2) (hexp : o ≠ 10) :
    Calls Safg.prog 10 #[.int .u8 (o : Int), arrV A, arrV B, arrV C, .agg (vL 99 gas (.slice (some ⟨gB, 0, none⟩) 3 3)).toArray, .agg (vL 100 (gas - costN o m) (.slice (some ⟨gS, 0, none⟩) 2 2)).toArray] w fun e w' => e = .returned (.bool true) ∧ Below w.heap.size w w' := by
  have SV : Hid (s.val = aluW o (wdOf A).val (wdOf B).val (wdOf C).val) := sv
  clear sv
  have hcN : costN o m ≤ 1610 := costN_le h32
  have ho256 : o < 256 := by unfold AluOp at ho; omega
  have dR : ∀ {L : List Nat}, D.Dig L → D.Dig L.reverse := fun h x hx => h x (List.mem_reverse.1 hx)
  have vv : ∀ {L : List Nat}, L.length = 32 → D.Dig L → D.val (D.trimL L.reverse) < b256 := fun {L} hl hd => by rw [D.trimL_val, ← val_wdOf hl]; exact Wd4.lt (wdOf_ok hd)
  have vw : ∀ {L : List Nat}, L.length = 32 → D.val (D.trimL L.reverse) = (wdOf L).val := fun {L} hl => by rw [D.trimL_val, val_wdOf hl]
  have hml : (D.trimL B.reverse).length = m := by
    have h1 := bytes_trim (dR dB)
    rw [← val_wdOf lB] at h1
    exact Bytes.unique h1 hm
  obtain ⟨i51, hi51, hz51, hs51, hb51⟩ := info51'
  obtain ⟨fs, u36⟩ : ∃ fs, Safg.prog.underlying 36 = some (.struct fs) := ⟨_, rfl⟩
  obtain ⟨gas', hgas'⟩ : ∃ g, gas - costN o m = g := ⟨_, rfl⟩
  obtain ⟨c, hc⟩ : ∃ c, costN o m = c := ⟨_, rfl⟩
  rw [hgas']
  rw [hc] at hgas' hcN
  have HGN : Hid (gasN o = c) := by rw [← hc]; show _ = costN o m; rw [costN, if_neg hexp]
  clear hc
  have zg := zgL_at ho
  have tk := tkL_at ho
  rw [htk] at tk
  go_enter Safg.func10, Safg.ntmps10
  go_upto_region 1 with (first | ((with_reducible show wpList _ _ _ _ _ _); refine wpList_box_arr rfl 22 (.tmp 1) rfl A rfl ?_; intro w1 g7 hg7 o7 b1) | ((with_reducible show wpList _ _ _ _ _ _); refine wpList_box_arr rfl 22 (.tmp 2) rfl B rfl ?_; intro w2 g8 hg8 o8 b2) | ((with_reducible show wpList _ _ _ _ _ _); refine wpList_box_arr rfl 22 (.tmp 3) rfl C rfl ?_; intro w3 g9 hg9 o9 b3) | ((with_reducible show wpList _ _ _ _ _ _); refine wpList_box_agg rfl 36 (.tmp 4) rfl (vL 99 gas (.slice (some ⟨gB, 0, none⟩) 3 3)) rfl ?_; intro w4 g10 hg10 k10 b4) | ((with_reducible show wpList _ _ _ _ _ _); refine wpList_box_agg rfl 36 (.tmp 5) rfl (vL 100 gas' (.slice (some ⟨gS, 0, none⟩) 2 2)) rfl ?_; intro w5 g11 hg11 k11 b5))
  have s1 := b1.size; have s2 := b2.size; have s3 := b3.size; have s4 := b4.size; have s5 := b5.size
  have e45 := b4.trans (b5.mono s4)
  have e35 := b3.trans (e45.mono s3)
  have e25 := b2.trans (e35.mono s2)
  have B5 : Below w.heap.size w w5 := b1.trans (e25.mono s1)
  have hk5 : HK w5 g7 g8 g9 g10 g11 gB gS 2 A B C (vL 99 gas (.slice (some ⟨gB, 0, none⟩) 3 3)) (vL 100 gas' (.slice (some ⟨gS, 0, none⟩) 2 2)) ws (MF.lay ws 1 s) := ⟨o7.below e25 o7.lt, o8.below e35 o8.lt, o9.below e45 o9.lt, k10.below b5 k10.lt, k11, sB.below B5, sS.below B5⟩
  clear o7 o8 o9 k10 k11 b1 b2 b3 b4 b5 e45 e35 e25 s1 s2 s3 s4 s5 sB sS
  refine wp_region_held_drew (S := fun _ => True) (by kernel_rfl) trivial (fun hHeld => ?_)
  have hk6 := hk5.below (Turn.drew_below w5)
  have B6 := B5.trans ((Turn.drew_below w5).mono B5.size)
  clear hk5 B5
  generalize w5.drew = w6 at *
  apply wpAnyH_to6 (F := fun g13 w' => Own w' g13 (beL s) ∧ HK w' g7 g8 g9 g10 g11 gB gS 2 A B C (vL 99 gas (.slice (some ⟨gB, 0, none⟩) 3 3)) (vL 100 gas' (.slice (some ⟨gS, 0, none⟩) 2 2)) ws (MF.lay ws 1 s) ∧ w.heap.size ≤ g13 ∧ Below w.heap.size w w')
  case h =>
    refine wpAnyH_take' (i := 0) (d := 19) rfl rfl (by kernel_rfl) (by kernel_rfl) (by kernel_rfl) (fun _ _ _ h => h) (Or.inl ⟨by rfl, fun w hw => by go_simp; try rfl⟩) trivial ?_
    try simp only [Act.put, List.setIfInBounds_toArray, List.set_cons_zero, List.set_cons_succ]
    refine wpAnyH_take' (i := 1) (d := 20) (v := .slice (some ⟨g7, 0, none⟩) 32 32) rfl rfl (by kernel_rfl) (by kernel_rfl) (by kernel_rfl) (fun _ _ _ h => h) (Or.inl ⟨by rfl, fun w hw => by go_simp; try rfl⟩) trivial ?_
    try simp only [Act.put, List.setIfInBounds_toArray, List.set_cons_zero, List.set_cons_succ]
    refine wpAnyH_take' (i := 3) (d := 22) (v := .slice (some ⟨g8, 0, none⟩) 32 32) rfl rfl (by kernel_rfl) (by kernel_rfl) (by kernel_rfl) (fun _ _ _ h => h) (Or.inl ⟨by rfl, fun w hw => by go_simp; try rfl⟩) trivial ?_
    try simp only [Act.put, List.setIfInBounds_toArray, List.set_cons_zero, List.set_cons_succ]
    refine wpAnyH_take' (i := 5) (d := 24) (v := .slice (some ⟨g9, 0, none⟩) 32 32) rfl rfl (by kernel_rfl) (by kernel_rfl) (by kernel_rfl) (fun _ _ _ h => h) (Or.inl ⟨by rfl, fun w hw => by go_simp; try rfl⟩) trivial ?_
    try simp only [Act.put, List.setIfInBounds_toArray, List.set_cons_zero, List.set_cons_succ]
    refine wpAnyH_two 2 12 (by kernel_rfl) rfl rfl rfl rfl ?_ ?_
    · refine wp_callR Safg.func33 (by kernel_rfl) (by kernel_rfl) (fromBE_any w6 (some ⟨g7, 0, none⟩) 32 32 A (by rw [← lA]; exact hk6.o7.rd dA) (by omega) (by omega)) rfl rfl ?_
      rintro e w7 ⟨a1, rfl, i1, bx⟩
      have hk6 := hk6.below bx
      have B6 := B6.trans (bx.mono B6.size)
      clear bx
      refine ⟨_, rfl, trivial, ?_⟩
      try simp only [Act.put, List.setIfInBounds_toArray, List.set_cons_zero, List.set_cons_succ]
      refine wpAnyH_two 4 12 (by kernel_rfl) rfl rfl rfl rfl ?_ ?_
      · refine wp_callR Safg.func33 (by kernel_rfl) (by kernel_rfl) (fromBE_any w7 (some ⟨g8, 0, none⟩) 32 32 B (by rw [← lB]; exact hk6.o8.rd dB) (by omega) (by omega)) rfl rfl ?_
        rintro e w8 ⟨a2, rfl, i2, bx⟩
        have i1 := i1.below bx
        have hk6 := hk6.below bx
        have B6 := B6.trans (bx.mono B6.size)
        clear bx
        refine ⟨_, rfl, trivial, ?_⟩
        try simp only [Act.put, List.setIfInBounds_toArray, List.set_cons_zero, List.set_cons_succ]
        refine wpAnyH_two 6 12 (by kernel_rfl) rfl rfl rfl rfl ?_ ?_
        · refine wp_callR Safg.func33 (by kernel_rfl) (by kernel_rfl) (fromBE_any w8 (some ⟨g9, 0, none⟩) 32 32 C (by rw [← lC]; exact hk6.o9.rd dC) (by omega) (by omega)) rfl rfl ?_
          rintro e w9 ⟨a3, rfl, i3, bx⟩
          have i1 := i1.below bx
          have i2 := i2.below bx
          have hk6 := hk6.below bx
          have B6 := B6.trans (bx.mono B6.size)
          clear bx
          refine ⟨_, rfl, trivial, ?_⟩
          try simp only [Act.put, List.setIfInBounds_toArray, List.set_cons_zero, List.set_cons_succ]
          refine wpAnyH_two 7 12 (by kernel_rfl) rfl rfl rfl rfl ?_ ?_
          · refine wp_callR Safg.func32 (by kernel_rfl) (by kernel_rfl) (alu_all w9 o ho a1 a2 a3 (D.trimL A.reverse) (D.trimL B.reverse) (D.trimL C.reverse) i1 i2 i3 (vv lA dA) (vv lB dB) (vv lC dC)) rfl rfl ?_
            rintro e w10 ⟨a4, l4, rfl, i4, vl4, bx⟩
            obtain ⟨n4, hn4⟩ : ∃ n, l4.length = n := ⟨_, rfl⟩
            rw [hn4]
            rw [vw lA, vw lB, vw lC, ← SV.out] at vl4
            have VL4 : Hid (D.val l4 = s.val) := vl4
            clear vl4
            have i1 := i1.below bx
            have i2 := i2.below bx
            have i3 := i3.below bx
            have hk6 := hk6.below bx
            have B6 := B6.trans (bx.mono B6.size)
            clear bx
            refine ⟨_, rfl, trivial, ?_⟩
            try simp only [Act.put, List.setIfInBounds_toArray, List.set_cons_zero, List.set_cons_succ]
            refine wpAnyH_two 8 12 (by kernel_rfl) rfl rfl rfl rfl ?_ ?_
            · refine wp_callR Safg.func31 (by kernel_rfl) (by kernel_rfl) (be32_any w10 a4 n4 n4 l4 (by rw [← hn4]; exact i4.rd) (Nat.le_refl _) (by have := i4.len (k := 32) (by rw [VL4.out, ← b256_pow]; exact Wd4.lt sok); omega)) rfl rfl ?_
              rintro e w11 ⟨bl, okb, rfl, hbl, dbl, hor, bx⟩
              obtain ⟨rfl, rfl⟩ : bl = beL s ∧ okb = true := by
                rcases hor with ⟨h1, _⟩ | ⟨_, h2, h3⟩
                · exact absurd (trim_small i4.rd.dig sok VL4.out) (Nat.not_le.2 h1)
                · exact ⟨be32_eq hbl i4.rd.dig sok h3 VL4.out, h2⟩
              have i4 := i4.below bx
              have hk6 := hk6.below bx
              have B6 := B6.trans (bx.mono B6.size)
              clear bx
              refine ⟨_, rfl, trivial, ?_⟩
              try simp only [Act.put, List.setIfInBounds_toArray, List.set_cons_zero, List.set_cons_succ]
              refine wpAnyH_take' (i := 9) (d := 18) rfl rfl (by kernel_rfl) (by kernel_rfl) (by kernel_rfl) (fun _ _ _ h => h) (Or.inl ⟨by rfl, fun w hw => by go_simp; try rfl⟩) trivial ?_
              try simp only [Act.put, List.setIfInBounds_toArray, List.set_cons_zero, List.set_cons_succ]
              refine wpAnyH_take' (i := 10) (d := 28) rfl rfl (by kernel_rfl) (by kernel_rfl) (by kernel_rfl) (fun _ _ _ h => h) (Or.inl ⟨by rfl, fun w hw => by go_simp; try rfl⟩) trivial ?_
              try simp only [Act.put, List.setIfInBounds_toArray, List.set_cons_zero, List.set_cons_succ]
              refine wpAnyH_take' (i := 11) (d := 29) rfl rfl (by kernel_rfl) (by kernel_rfl) (by kernel_rfl) (fun _ _ _ h => h) (Or.inl ⟨by rfl, fun w hw => by go_simp; try rfl⟩) trivial ?_
              try simp only [Act.put, List.setIfInBounds_toArray, List.set_cons_zero, List.set_cons_succ]
              refine wpAnyH_one 12 (by kernel_rfl) rfl rfl ?_
              refine wp_allocR 22 rfl _ Safg.zero22 ?_
              intro w12 g13 hg13 k13 bx
              have o13 : Own w12 g13 (List.replicate 32 0) := ⟨k13.lt, fun j hj => k13.get (by rw [cellsL, List.getElem?_map, List.getD_eq_getElem?_getD, List.getElem?_eq_getElem hj]; rfl), k13.free⟩
              have f13 := hk6.fresh hg13
              have q13 : w.heap.size ≤ g13 := Nat.le_trans B6.size hg13
              have hk6 := hk6.below bx
              have B6 := B6.trans (bx.mono B6.size)
              clear bx k13
              refine ⟨trivial, ?_⟩
              try simp only [Act.put, List.setIfInBounds_toArray, List.set_cons_zero, List.set_cons_succ]
              refine wpAnyH_one 13 (by kernel_rfl) rfl rfl ?_
              refine wp_storeR 22 _ _ rfl g13 rfl (cellsL (List.replicate 32 0)) (cellsL (beL s)) rfl o13.blk (by rw [cellsL_length, cellsL_length, beL_length, List.length_replicate]) (by rw [cellsL_length, List.length_replicate]; exact Safg.size22) (cellsL_one _) ?_
              intro wy ky ny
              have hk6 := hk6.only ny f13
              have B6 := B6.trans (ny.below q13)
              have oy : Own wy g13 (beL s) := ⟨ky.lt, fun j hj => ky.get (by rw [cellsL, List.getElem?_map, List.getD_eq_getElem?_getD, List.getElem?_eq_getElem hj]; rfl), ky.free⟩
              refine ⟨trivial, ?_⟩
              try simp only [Act.put, List.setIfInBounds_toArray, List.set_cons_zero, List.set_cons_succ]
              refine wpAnyH_take' (i := 14) (d := 14) rfl rfl (by kernel_rfl) (by kernel_rfl) (by kernel_rfl) (fun _ _ _ h => h) (Or.inl ⟨by rfl, fun w hw => by go_simp; try rfl⟩) trivial ?_
              try simp only [Act.put, List.setIfInBounds_toArray, List.set_cons_zero, List.set_cons_succ]
              refine wpAnyH_done (by kernel_rfl) ?_ _
              exact NormQ.mk ⟨g13, a1, a2, a3, a4, n4, rfl, oy, hk6, q13, B6⟩
            · refine wp_allocR 22 rfl _ Safg.zero22 ?_
              intro w13 g13 hg13 k13 bx
              have o13 : Own w13 g13 (List.replicate 32 0) := ⟨k13.lt, fun j hj => k13.get (by rw [cellsL, List.getElem?_map, List.getD_eq_getElem?_getD, List.getElem?_eq_getElem hj]; rfl), k13.free⟩
              have f13 := hk6.fresh hg13
              have q13 : w.heap.size ≤ g13 := Nat.le_trans B6.size hg13
              have i4 := i4.below bx
              have hk6 := hk6.below bx
              have B6 := B6.trans (bx.mono B6.size)
              clear bx k13
              refine ⟨trivial, ?_⟩
              try simp only [Act.put, List.setIfInBounds_toArray, List.set_cons_zero, List.set_cons_succ]
              refine wpAnyH_one 8 (by kernel_rfl) rfl rfl ?_
              refine wp_callR Safg.func31 (by kernel_rfl) (by kernel_rfl) (be32_any w13 a4 n4 n4 l4 (by rw [← hn4]; exact i4.rd) (Nat.le_refl _) (by have := i4.len (k := 32) (by rw [VL4.out, ← b256_pow]; exact Wd4.lt sok); omega)) rfl rfl ?_
              rintro e w14 ⟨bl, okb, rfl, hbl, dbl, hor, bx⟩
              obtain ⟨rfl, rfl⟩ : bl = beL s ∧ okb = true := by
                rcases hor with ⟨h1, _⟩ | ⟨_, h2, h3⟩
                · exact absurd (trim_small i4.rd.dig sok VL4.out) (Nat.not_le.2 h1)
                · exact ⟨be32_eq hbl i4.rd.dig sok h3 VL4.out, h2⟩
              have i4 := i4.below bx
              have hk6 := hk6.below bx
              have B6 := B6.trans (bx.mono B6.size)
              have o13 := o13.below bx o13.lt
              clear bx
              refine ⟨_, rfl, trivial, ?_⟩
              try simp only [Act.put, List.setIfInBounds_toArray, List.set_cons_zero, List.set_cons_succ]
              refine wpAnyH_take' (i := 9) (d := 18) rfl rfl (by kernel_rfl) (by kernel_rfl) (by kernel_rfl) (fun _ _ _ h => h) (Or.inl ⟨by rfl, fun w hw => by go_simp; try rfl⟩) trivial ?_
              try simp only [Act.put, List.setIfInBounds_toArray, List.set_cons_zero, List.set_cons_succ]
              refine wpAnyH_take' (i := 10) (d := 28) rfl rfl (by kernel_rfl) (by kernel_rfl) (by kernel_rfl) (fun _ _ _ h => h) (Or.inl ⟨by rfl, fun w hw => by go_simp; try rfl⟩) trivial ?_
              try simp only [Act.put, List.setIfInBounds_toArray, List.set_cons_zero, List.set_cons_succ]
              refine wpAnyH_take' (i := 11) (d := 29) rfl rfl (by kernel_rfl) (by kernel_rfl) (by kernel_rfl) (fun _ _ _ h => h) (Or.inl ⟨by rfl, fun w hw => by go_simp; try rfl⟩) trivial ?_
              try simp only [Act.put, List.setIfInBounds_toArray, List.set_cons_zero, List.set_cons_succ]
              refine wpAnyH_one 13 (by kernel_rfl) rfl rfl ?_
              refine wp_storeR 22 _ _ rfl g13 rfl (cellsL (List.replicate 32 0)) (cellsL (beL s)) rfl o13.blk (by rw [cellsL_length, cellsL_length, beL_length, List.length_replicate]) (by rw [cellsL_length, List.length_replicate]; exact Safg.size22) (cellsL_one _) ?_
              intro wy ky ny
              have hk6 := hk6.only ny f13
              have B6 := B6.trans (ny.below q13)
              have oy : Own wy g13 (beL s) := ⟨ky.lt, fun j hj => ky.get (by rw [cellsL, List.getElem?_map, List.getD_eq_getElem?_getD, List.getElem?_eq_getElem hj]; rfl), ky.free⟩
              refine ⟨trivial, ?_⟩
              try simp only [Act.put, List.setIfInBounds_toArray, List.set_cons_zero, List.set_cons_succ]
              refine wpAnyH_take' (i := 14) (d := 14) rfl rfl (by kernel_rfl) (by kernel_rfl) (by kernel_rfl) (fun _ _ _ h => h) (Or.inl ⟨by rfl, fun w hw => by go_simp; try rfl⟩) trivial ?_
              try simp only [Act.put, List.setIfInBounds_toArray, List.set_cons_zero, List.set_cons_succ]
              refine wpAnyH_done (by kernel_rfl) ?_ _
              exact NormQ.mk ⟨g13, a1, a2, a3, a4, n4, rfl, oy, hk6, q13, B6⟩
          · refine wp_allocR 22 rfl _ Safg.zero22 ?_
            intro w15 g13 hg13 k13 bx
            have o13 : Own w15 g13 (List.replicate 32 0) := ⟨k13.lt, fun j hj => k13.get (by rw [cellsL, List.getElem?_map, List.getD_eq_getElem?_getD, List.getElem?_eq_getElem hj]; rfl), k13.free⟩
            have f13 := hk6.fresh hg13
            have q13 : w.heap.size ≤ g13 := Nat.le_trans B6.size hg13
            have i1 := i1.below bx
            have i2 := i2.below bx
            have i3 := i3.below bx
            have hk6 := hk6.below bx
            have B6 := B6.trans (bx.mono B6.size)
            clear bx k13
            refine ⟨trivial, ?_⟩
            try simp only [Act.put, List.setIfInBounds_toArray, List.set_cons_zero, List.set_cons_succ]
            refine wpAnyH_one 7 (by kernel_rfl) rfl rfl ?_
            refine wp_callR Safg.func32 (by kernel_rfl) (by kernel_rfl) (alu_all w15 o ho a1 a2 a3 (D.trimL A.reverse) (D.trimL B.reverse) (D.trimL C.reverse) i1 i2 i3 (vv lA dA) (vv lB dB) (vv lC dC)) rfl rfl ?_
            rintro e w16 ⟨a4, l4, rfl, i4, vl4, bx⟩
            obtain ⟨n4, hn4⟩ : ∃ n, l4.length = n := ⟨_, rfl⟩
            rw [hn4]
            rw [vw lA, vw lB, vw lC, ← SV.out] at vl4
            have VL4 : Hid (D.val l4 = s.val) := vl4
            clear vl4
            have i1 := i1.below bx
            have i2 := i2.below bx
            have i3 := i3.below bx
            have hk6 := hk6.below bx
            have B6 := B6.trans (bx.mono B6.size)
            have o13 := o13.below bx o13.lt
            clear bx
            refine ⟨_, rfl, trivial, ?_⟩
            try simp only [Act.put, List.setIfInBounds_toArray, List.set_cons_zero, List.set_cons_succ]
            refine wpAnyH_one 8 (by kernel_rfl) rfl rfl ?_
            refine wp_callR Safg.func31 (by kernel_rfl) (by kernel_rfl) (be32_any w16 a4 n4 n4 l4 (by rw [← hn4]; exact i4.rd) (Nat.le_refl _) (by have := i4.len (k := 32) (by rw [VL4.out, ← b256_pow]; exact Wd4.lt sok); omega)) rfl rfl ?_
            rintro e w17 ⟨bl, okb, rfl, hbl, dbl, hor, bx⟩
            obtain ⟨rfl, rfl⟩ : bl = beL s ∧ okb = true := by
              rcases hor with ⟨h1, _⟩ | ⟨_, h2, h3⟩
              · exact absurd (trim_small i4.rd.dig sok VL4.out) (Nat.not_le.2 h1)
              · exact ⟨be32_eq hbl i4.rd.dig sok h3 VL4.out, h2⟩
            have i4 := i4.below bx
            have hk6 := hk6.below bx
            have B6 := B6.trans (bx.mono B6.size)
            have o13 := o13.below bx o13.lt
            clear bx
            refine ⟨_, rfl, trivial, ?_⟩
            try simp only [Act.put, List.setIfInBounds_toArray, List.set_cons_zero, List.set_cons_succ]
            refine wpAnyH_take' (i := 9) (d := 18) rfl rfl (by kernel_rfl) (by kernel_rfl) (by kernel_rfl) (fun _ _ _ h => h) (Or.inl ⟨by rfl, fun w hw => by go_simp; try rfl⟩) trivial ?_
            try simp only [Act.put, List.setIfInBounds_toArray, List.set_cons_zero, List.set_cons_succ]
            refine wpAnyH_take' (i := 10) (d := 28) rfl rfl (by kernel_rfl) (by kernel_rfl) (by kernel_rfl) (fun _ _ _ h => h) (Or.inl ⟨by rfl, fun w hw => by go_simp; try rfl⟩) trivial ?_
            try simp only [Act.put, List.setIfInBounds_toArray, List.set_cons_zero, List.set_cons_succ]
            refine wpAnyH_take' (i := 11) (d := 29) rfl rfl (by kernel_rfl) (by kernel_rfl) (by kernel_rfl) (fun _ _ _ h => h) (Or.inl ⟨by rfl, fun w hw => by go_simp; try rfl⟩) trivial ?_
            try simp only [Act.put, List.setIfInBounds_toArray, List.set_cons_zero, List.set_cons_succ]
            refine wpAnyH_one 13 (by kernel_rfl) rfl rfl ?_
            refine wp_storeR 22 _ _ rfl g13 rfl (cellsL (List.replicate 32 0)) (cellsL (beL s)) rfl o13.blk (by rw [cellsL_length, cellsL_length, beL_length, List.length_replicate]) (by rw [cellsL_length, List.length_replicate]; exact Safg.size22) (cellsL_one _) ?_
            intro wy ky ny
            have hk6 := hk6.only ny f13
            have B6 := B6.trans (ny.below q13)
            have oy : Own wy g13 (beL s) := ⟨ky.lt, fun j hj => ky.get (by rw [cellsL, List.getElem?_map, List.getD_eq_getElem?_getD, List.getElem?_eq_getElem hj]; rfl), ky.free⟩
            refine ⟨trivial, ?_⟩
            try simp only [Act.put, List.setIfInBounds_toArray, List.set_cons_zero, List.set_cons_succ]
            refine wpAnyH_take' (i := 14) (d := 14) rfl rfl (by kernel_rfl) (by kernel_rfl) (by kernel_rfl) (fun _ _ _ h => h) (Or.inl ⟨by rfl, fun w hw => by go_simp; try rfl⟩) trivial ?_
            try simp only [Act.put, List.setIfInBounds_toArray, List.set_cons_zero, List.set_cons_succ]
            refine wpAnyH_done (by kernel_rfl) ?_ _
            exact NormQ.mk ⟨g13, a1, a2, a3, a4, n4, rfl, oy, hk6, q13, B6⟩
        · refine wp_allocR 22 rfl _ Safg.zero22 ?_
          intro w18 g13 hg13 k13 bx
          have o13 : Own w18 g13 (List.replicate 32 0) := ⟨k13.lt, fun j hj => k13.get (by rw [cellsL, List.getElem?_map, List.getD_eq_getElem?_getD, List.getElem?_eq_getElem hj]; rfl), k13.free⟩
          have f13 := hk6.fresh hg13
          have q13 : w.heap.size ≤ g13 := Nat.le_trans B6.size hg13
          have i1 := i1.below bx
          have i2 := i2.below bx
          have hk6 := hk6.below bx
          have B6 := B6.trans (bx.mono B6.size)
          clear bx k13
          refine ⟨trivial, ?_⟩
          try simp only [Act.put, List.setIfInBounds_toArray, List.set_cons_zero, List.set_cons_succ]
          refine wpAnyH_one 6 (by kernel_rfl) rfl rfl ?_
          refine wp_callR Safg.func33 (by kernel_rfl) (by kernel_rfl) (fromBE_any w18 (some ⟨g9, 0, none⟩) 32 32 C (by rw [← lC]; exact hk6.o9.rd dC) (by omega) (by omega)) rfl rfl ?_
          rintro e w19 ⟨a3, rfl, i3, bx⟩
          have i1 := i1.below bx
          have i2 := i2.below bx
          have hk6 := hk6.below bx
          have B6 := B6.trans (bx.mono B6.size)
          have o13 := o13.below bx o13.lt
          clear bx
          refine ⟨_, rfl, trivial, ?_⟩
          try simp only [Act.put, List.setIfInBounds_toArray, List.set_cons_zero, List.set_cons_succ]
          refine wpAnyH_one 7 (by kernel_rfl) rfl rfl ?_
          refine wp_callR Safg.func32 (by kernel_rfl) (by kernel_rfl) (alu_all w19 o ho a1 a2 a3 (D.trimL A.reverse) (D.trimL B.reverse) (D.trimL C.reverse) i1 i2 i3 (vv lA dA) (vv lB dB) (vv lC dC)) rfl rfl ?_
          rintro e w20 ⟨a4, l4, rfl, i4, vl4, bx⟩
          obtain ⟨n4, hn4⟩ : ∃ n, l4.length = n := ⟨_, rfl⟩
          rw [hn4]
          rw [vw lA, vw lB, vw lC, ← SV.out] at vl4
          have VL4 : Hid (D.val l4 = s.val) := vl4
          clear vl4
          have i1 := i1.below bx
          have i2 := i2.below bx
          have i3 := i3.below bx
          have hk6 := hk6.below bx
          have B6 := B6.trans (bx.mono B6.size)
          have o13 := o13.below bx o13.lt
          clear bx
          refine ⟨_, rfl, trivial, ?_⟩
          try simp only [Act.put, List.setIfInBounds_toArray, List.set_cons_zero, List.set_cons_succ]
          refine wpAnyH_one 8 (by kernel_rfl) rfl rfl ?_
          refine wp_callR Safg.func31 (by kernel_rfl) (by kernel_rfl) (be32_any w20 a4 n4 n4 l4 (by rw [← hn4]; exact i4.rd) (Nat.le_refl _) (by have := i4.len (k := 32) (by rw [VL4.out, ← b256_pow]; exact Wd4.lt sok); omega)) rfl rfl ?_
          rintro e w21 ⟨bl, okb, rfl, hbl, dbl, hor, bx⟩
          obtain ⟨rfl, rfl⟩ : bl = beL s ∧ okb = true := by
            rcases hor with ⟨h1, _⟩ | ⟨_, h2, h3⟩
            · exact absurd (trim_small i4.rd.dig sok VL4.out) (Nat.not_le.2 h1)
            · exact ⟨be32_eq hbl i4.rd.dig sok h3 VL4.out, h2⟩
          have i4 := i4.below bx
          have hk6 := hk6.below bx
          have B6 := B6.trans (bx.mono B6.size)
          have o13 := o13.below bx o13.lt
          clear bx
          refine ⟨_, rfl, trivial, ?_⟩
          try simp only [Act.put, List.setIfInBounds_toArray, List.set_cons_zero, List.set_cons_succ]
          refine wpAnyH_take' (i := 9) (d := 18) rfl rfl (by kernel_rfl) (by kernel_rfl) (by kernel_rfl) (fun _ _ _ h => h) (Or.inl ⟨by rfl, fun w hw => by go_simp; try rfl⟩) trivial ?_
          try simp only [Act.put, List.setIfInBounds_toArray, List.set_cons_zero, List.set_cons_succ]
          refine wpAnyH_take' (i := 10) (d := 28) rfl rfl (by kernel_rfl) (by kernel_rfl) (by kernel_rfl) (fun _ _ _ h => h) (Or.inl ⟨by rfl, fun w hw => by go_simp; try rfl⟩) trivial ?_
          try simp only [Act.put, List.setIfInBounds_toArray, List.set_cons_zero, List.set_cons_succ]
          refine wpAnyH_take' (i := 11) (d := 29) rfl rfl (by kernel_rfl) (by kernel_rfl) (by kernel_rfl) (fun _ _ _ h => h) (Or.inl ⟨by rfl, fun w hw => by go_simp; try rfl⟩) trivial ?_
          try simp only [Act.put, List.setIfInBounds_toArray, List.set_cons_zero, List.set_cons_succ]
          refine wpAnyH_one 13 (by kernel_rfl) rfl rfl ?_
          refine wp_storeR 22 _ _ rfl g13 rfl (cellsL (List.replicate 32 0)) (cellsL (beL s)) rfl o13.blk (by rw [cellsL_length, cellsL_length, beL_length, List.length_replicate]) (by rw [cellsL_length, List.length_replicate]; exact Safg.size22) (cellsL_one _) ?_
          intro wy ky ny
          have hk6 := hk6.only ny f13
          have B6 := B6.trans (ny.below q13)
          have oy : Own wy g13 (beL s) := ⟨ky.lt, fun j hj => ky.get (by rw [cellsL, List.getElem?_map, List.getD_eq_getElem?_getD, List.getElem?_eq_getElem hj]; rfl), ky.free⟩
          refine ⟨trivial, ?_⟩
          try simp only [Act.put, List.setIfInBounds_toArray, List.set_cons_zero, List.set_cons_succ]
          refine wpAnyH_take' (i := 14) (d := 14) rfl rfl (by kernel_rfl) (by kernel_rfl) (by kernel_rfl) (fun _ _ _ h => h) (Or.inl ⟨by rfl, fun w hw => by go_simp; try rfl⟩) trivial ?_
          try simp only [Act.put, List.setIfInBounds_toArray, List.set_cons_zero, List.set_cons_succ]
          refine wpAnyH_done (by kernel_rfl) ?_ _
          exact NormQ.mk ⟨g13, a1, a2, a3, a4, n4, rfl, oy, hk6, q13, B6⟩
      · refine wp_allocR 22 rfl _ Safg.zero22 ?_
        intro w22 g13 hg13 k13 bx
        have o13 : Own w22 g13 (List.replicate 32 0) := ⟨k13.lt, fun j hj => k13.get (by rw [cellsL, List.getElem?_map, List.getD_eq_getElem?_getD, List.getElem?_eq_getElem hj]; rfl), k13.free⟩
        have f13 := hk6.fresh hg13
        have q13 : w.heap.size ≤ g13 := Nat.le_trans B6.size hg13
        have i1 := i1.below bx
        have hk6 := hk6.below bx
        have B6 := B6.trans (bx.mono B6.size)
        clear bx k13
        refine ⟨trivial, ?_⟩
        try simp only [Act.put, List.setIfInBounds_toArray, List.set_cons_zero, List.set_cons_succ]
        refine wpAnyH_one 4 (by kernel_rfl) rfl rfl ?_
        refine wp_callR Safg.func33 (by kernel_rfl) (by kernel_rfl) (fromBE_any w22 (some ⟨g8, 0, none⟩) 32 32 B (by rw [← lB]; exact hk6.o8.rd dB) (by omega) (by omega)) rfl rfl ?_
        rintro e w23 ⟨a2, rfl, i2, bx⟩
        have i1 := i1.below bx
        have hk6 := hk6.below bx
        have B6 := B6.trans (bx.mono B6.size)
        have o13 := o13.below bx o13.lt
        clear bx
        refine ⟨_, rfl, trivial, ?_⟩
        try simp only [Act.put, List.setIfInBounds_toArray, List.set_cons_zero, List.set_cons_succ]
        refine wpAnyH_one 6 (by kernel_rfl) rfl rfl ?_
        refine wp_callR Safg.func33 (by kernel_rfl) (by kernel_rfl) (fromBE_any w23 (some ⟨g9, 0, none⟩) 32 32 C (by rw [← lC]; exact hk6.o9.rd dC) (by omega) (by omega)) rfl rfl ?_
        rintro e w24 ⟨a3, rfl, i3, bx⟩
        have i1 := i1.below bx
        have i2 := i2.below bx
        have hk6 := hk6.below bx
        have B6 := B6.trans (bx.mono B6.size)
        have o13 := o13.below bx o13.lt
        clear bx
        refine ⟨_, rfl, trivial, ?_⟩
        try simp only [Act.put, List.setIfInBounds_toArray, List.set_cons_zero, List.set_cons_succ]
        refine wpAnyH_one 7 (by kernel_rfl) rfl rfl ?_
        refine wp_callR Safg.func32 (by kernel_rfl) (by kernel_rfl) (alu_all w24 o ho a1 a2 a3 (D.trimL A.reverse) (D.trimL B.reverse) (D.trimL C.reverse) i1 i2 i3 (vv lA dA) (vv lB dB) (vv lC dC)) rfl rfl ?_
        rintro e w25 ⟨a4, l4, rfl, i4, vl4, bx⟩
        obtain ⟨n4, hn4⟩ : ∃ n, l4.length = n := ⟨_, rfl⟩
        rw [hn4]
        rw [vw lA, vw lB, vw lC, ← SV.out] at vl4
        have VL4 : Hid (D.val l4 = s.val) := vl4
        clear vl4
        have i1 := i1.below bx
        have i2 := i2.below bx
        have i3 := i3.below bx
        have hk6 := hk6.below bx
        have B6 := B6.trans (bx.mono B6.size)
        have o13 := o13.below bx o13.lt
        clear bx
        refine ⟨_, rfl, trivial, ?_⟩
        try simp only [Act.put, List.setIfInBounds_toArray, List.set_cons_zero, List.set_cons_succ]
        refine wpAnyH_one 8 (by kernel_rfl) rfl rfl ?_
        refine wp_callR Safg.func31 (by kernel_rfl) (by kernel_rfl) (be32_any w25 a4 n4 n4 l4 (by rw [← hn4]; exact i4.rd) (Nat.le_refl _) (by have := i4.len (k := 32) (by rw [VL4.out, ← b256_pow]; exact Wd4.lt sok); omega)) rfl rfl ?_
        rintro e w26 ⟨bl, okb, rfl, hbl, dbl, hor, bx⟩
        obtain ⟨rfl, rfl⟩ : bl = beL s ∧ okb = true := by
          rcases hor with ⟨h1, _⟩ | ⟨_, h2, h3⟩
          · exact absurd (trim_small i4.rd.dig sok VL4.out) (Nat.not_le.2 h1)
          · exact ⟨be32_eq hbl i4.rd.dig sok h3 VL4.out, h2⟩
        have i4 := i4.below bx
        have hk6 := hk6.below bx
        have B6 := B6.trans (bx.mono B6.size)
        have o13 := o13.below bx o13.lt
        clear bx
        refine ⟨_, rfl, trivial, ?_⟩
        try simp only [Act.put, List.setIfInBounds_toArray, List.set_cons_zero, List.set_cons_succ]
        refine wpAnyH_take' (i := 9) (d := 18) rfl rfl (by kernel_rfl) (by kernel_rfl) (by kernel_rfl) (fun _ _ _ h => h) (Or.inl ⟨by rfl, fun w hw => by go_simp; try rfl⟩) trivial ?_
        try simp only [Act.put, List.setIfInBounds_toArray, List.set_cons_zero, List.set_cons_succ]
        refine wpAnyH_take' (i := 10) (d := 28) rfl rfl (by kernel_rfl) (by kernel_rfl) (by kernel_rfl) (fun _ _ _ h => h) (Or.inl ⟨by rfl, fun w hw => by go_simp; try rfl⟩) trivial ?_
        try simp only [Act.put, List.setIfInBounds_toArray, List.set_cons_zero, List.set_cons_succ]
        refine wpAnyH_take' (i := 11) (d := 29) rfl rfl (by kernel_rfl) (by kernel_rfl) (by kernel_rfl) (fun _ _ _ h => h) (Or.inl ⟨by rfl, fun w hw => by go_simp; try rfl⟩) trivial ?_
        try simp only [Act.put, List.setIfInBounds_toArray, List.set_cons_zero, List.set_cons_succ]
        refine wpAnyH_one 13 (by kernel_rfl) rfl rfl ?_
        refine wp_storeR 22 _ _ rfl g13 rfl (cellsL (List.replicate 32 0)) (cellsL (beL s)) rfl o13.blk (by rw [cellsL_length, cellsL_length, beL_length, List.length_replicate]) (by rw [cellsL_length, List.length_replicate]; exact Safg.size22) (cellsL_one _) ?_
        intro wy ky ny
        have hk6 := hk6.only ny f13
        have B6 := B6.trans (ny.below q13)
        have oy : Own wy g13 (beL s) := ⟨ky.lt, fun j hj => ky.get (by rw [cellsL, List.getElem?_map, List.getD_eq_getElem?_getD, List.getElem?_eq_getElem hj]; rfl), ky.free⟩
        refine ⟨trivial, ?_⟩
        try simp only [Act.put, List.setIfInBounds_toArray, List.set_cons_zero, List.set_cons_succ]
        refine wpAnyH_take' (i := 14) (d := 14) rfl rfl (by kernel_rfl) (by kernel_rfl) (by kernel_rfl) (fun _ _ _ h => h) (Or.inl ⟨by rfl, fun w hw => by go_simp; try rfl⟩) trivial ?_
        try simp only [Act.put, List.setIfInBounds_toArray, List.set_cons_zero, List.set_cons_succ]
        refine wpAnyH_done (by kernel_rfl) ?_ _
        exact NormQ.mk ⟨g13, a1, a2, a3, a4, n4, rfl, oy, hk6, q13, B6⟩
    · refine wp_allocR 22 rfl _ Safg.zero22 ?_
      intro w27 g13 hg13 k13 bx
      have o13 : Own w27 g13 (List.replicate 32 0) := ⟨k13.lt, fun j hj => k13.get (by rw [cellsL, List.getElem?_map, List.getD_eq_getElem?_getD, List.getElem?_eq_getElem hj]; rfl), k13.free⟩
      have f13 := hk6.fresh hg13
      have q13 : w.heap.size ≤ g13 := Nat.le_trans B6.size hg13
      have hk6 := hk6.below bx
      have B6 := B6.trans (bx.mono B6.size)
      clear bx k13
      refine ⟨trivial, ?_⟩
      try simp only [Act.put, List.setIfInBounds_toArray, List.set_cons_zero, List.set_cons_succ]
      refine wpAnyH_one 2 (by kernel_rfl) rfl rfl ?_
      refine wp_callR Safg.func33 (by kernel_rfl) (by kernel_rfl) (fromBE_any w27 (some ⟨g7, 0, none⟩) 32 32 A (by rw [← lA]; exact hk6.o7.rd dA) (by omega) (by omega)) rfl rfl ?_
      rintro e w28 ⟨a1, rfl, i1, bx⟩
      have hk6 := hk6.below bx
      have B6 := B6.trans (bx.mono B6.size)
      have o13 := o13.below bx o13.lt
      clear bx
      refine ⟨_, rfl, trivial, ?_⟩
      try simp only [Act.put, List.setIfInBounds_toArray, List.set_cons_zero, List.set_cons_succ]
      refine wpAnyH_one 4 (by kernel_rfl) rfl rfl ?_
      refine wp_callR Safg.func33 (by kernel_rfl) (by kernel_rfl) (fromBE_any w28 (some ⟨g8, 0, none⟩) 32 32 B (by rw [← lB]; exact hk6.o8.rd dB) (by omega) (by omega)) rfl rfl ?_
      rintro e w29 ⟨a2, rfl, i2, bx⟩
      have i1 := i1.below bx
      have hk6 := hk6.below bx
      have B6 := B6.trans (bx.mono B6.size)
      have o13 := o13.below bx o13.lt
      clear bx
      refine ⟨_, rfl, trivial, ?_⟩
      try simp only [Act.put, List.setIfInBounds_toArray, List.set_cons_zero, List.set_cons_succ]
      refine wpAnyH_one 6 (by kernel_rfl) rfl rfl ?_
      refine wp_callR Safg.func33 (by kernel_rfl) (by kernel_rfl) (fromBE_any w29 (some ⟨g9, 0, none⟩) 32 32 C (by rw [← lC]; exact hk6.o9.rd dC) (by omega) (by omega)) rfl rfl ?_
      rintro e w30 ⟨a3, rfl, i3, bx⟩
      have i1 := i1.below bx
      have i2 := i2.below bx
      have hk6 := hk6.below bx
      have B6 := B6.trans (bx.mono B6.size)
      have o13 := o13.below bx o13.lt
      clear bx
      refine ⟨_, rfl, trivial, ?_⟩
      try simp only [Act.put, List.setIfInBounds_toArray, List.set_cons_zero, List.set_cons_succ]
      refine wpAnyH_one 7 (by kernel_rfl) rfl rfl ?_
      refine wp_callR Safg.func32 (by kernel_rfl) (by kernel_rfl) (alu_all w30 o ho a1 a2 a3 (D.trimL A.reverse) (D.trimL B.reverse) (D.trimL C.reverse) i1 i2 i3 (vv lA dA) (vv lB dB) (vv lC dC)) rfl rfl ?_
      rintro e w31 ⟨a4, l4, rfl, i4, vl4, bx⟩
      obtain ⟨n4, hn4⟩ : ∃ n, l4.length = n := ⟨_, rfl⟩
      rw [hn4]
      rw [vw lA, vw lB, vw lC, ← SV.out] at vl4
      have VL4 : Hid (D.val l4 = s.val) := vl4
      clear vl4
      have i1 := i1.below bx
      have i2 := i2.below bx
      have i3 := i3.below bx
      have hk6 := hk6.below bx
      have B6 := B6.trans (bx.mono B6.size)
      have o13 := o13.below bx o13.lt
      clear bx
      refine ⟨_, rfl, trivial, ?_⟩
      try simp only [Act.put, List.setIfInBounds_toArray, List.set_cons_zero, List.set_cons_succ]
      refine wpAnyH_one 8 (by kernel_rfl) rfl rfl ?_
      refine wp_callR Safg.func31 (by kernel_rfl) (by kernel_rfl) (be32_any w31 a4 n4 n4 l4 (by rw [← hn4]; exact i4.rd) (Nat.le_refl _) (by have := i4.len (k := 32) (by rw [VL4.out, ← b256_pow]; exact Wd4.lt sok); omega)) rfl rfl ?_
      rintro e w32 ⟨bl, okb, rfl, hbl, dbl, hor, bx⟩
      obtain ⟨rfl, rfl⟩ : bl = beL s ∧ okb = true := by
        rcases hor with ⟨h1, _⟩ | ⟨_, h2, h3⟩
        · exact absurd (trim_small i4.rd.dig sok VL4.out) (Nat.not_le.2 h1)
        · exact ⟨be32_eq hbl i4.rd.dig sok h3 VL4.out, h2⟩
      have i4 := i4.below bx
      have hk6 := hk6.below bx
      have B6 := B6.trans (bx.mono B6.size)
      have o13 := o13.below bx o13.lt
      clear bx
      refine ⟨_, rfl, trivial, ?_⟩
      try simp only [Act.put, List.setIfInBounds_toArray, List.set_cons_zero, List.set_cons_succ]
      refine wpAnyH_take' (i := 9) (d := 18) rfl rfl (by kernel_rfl) (by kernel_rfl) (by kernel_rfl) (fun _ _ _ h => h) (Or.inl ⟨by rfl, fun w hw => by go_simp; try rfl⟩) trivial ?_
      try simp only [Act.put, List.setIfInBounds_toArray, List.set_cons_zero, List.set_cons_succ]
      refine wpAnyH_take' (i := 10) (d := 28) rfl rfl (by kernel_rfl) (by kernel_rfl) (by kernel_rfl) (fun _ _ _ h => h) (Or.inl ⟨by rfl, fun w hw => by go_simp; try rfl⟩) trivial ?_
      try simp only [Act.put, List.setIfInBounds_toArray, List.set_cons_zero, List.set_cons_succ]
      refine wpAnyH_take' (i := 11) (d := 29) rfl rfl (by kernel_rfl) (by kernel_rfl) (by kernel_rfl) (fun _ _ _ h => h) (Or.inl ⟨by rfl, fun w hw => by go_simp; try rfl⟩) trivial ?_
      try simp only [Act.put, List.setIfInBounds_toArray, List.set_cons_zero, List.set_cons_succ]
      refine wpAnyH_one 13 (by kernel_rfl) rfl rfl ?_
      refine wp_storeR 22 _ _ rfl g13 rfl (cellsL (List.replicate 32 0)) (cellsL (beL s)) rfl o13.blk (by rw [cellsL_length, cellsL_length, beL_length, List.length_replicate]) (by rw [cellsL_length, List.length_replicate]; exact Safg.size22) (cellsL_one _) ?_
      intro wy ky ny
      have hk6 := hk6.only ny f13
      have B6 := B6.trans (ny.below q13)
      have oy : Own wy g13 (beL s) := ⟨ky.lt, fun j hj => ky.get (by rw [cellsL, List.getElem?_map, List.getD_eq_getElem?_getD, List.getElem?_eq_getElem hj]; rfl), ky.free⟩
      refine ⟨trivial, ?_⟩
      try simp only [Act.put, List.setIfInBounds_toArray, List.set_cons_zero, List.set_cons_succ]
      refine wpAnyH_take' (i := 14) (d := 14) rfl rfl (by kernel_rfl) (by kernel_rfl) (by kernel_rfl) (fun _ _ _ h => h) (Or.inl ⟨by rfl, fun w hw => by go_simp; try rfl⟩) trivial ?_
      try simp only [Act.put, List.setIfInBounds_toArray, List.set_cons_zero, List.set_cons_succ]
      refine wpAnyH_done (by kernel_rfl) ?_ _
      exact NormQ.mk ⟨g13, a1, a2, a3, a4, n4, rfl, oy, hk6, q13, B6⟩
  case hn =>
    intro g13 a1 a2 a3 a4 n4 w20 ⟨o13, hk, q13, B20⟩
    clear hHeld hk6 B6
    have q1 : IntKind.u64.wrap (gasN o : Int) = (gasN o : Int) := by have := gasN_le o; simp [IntKind.wrap, IntKind.bits, IntKind.signed]; omega
    obtain ⟨gn, hgn⟩ : ∃ g, gasN o = g := ⟨_, rfl⟩
    have HGG : Hid (gasN o = gn) := hgn
    rw [hgn] at zg q1
    clear hgn
    have te : ((o : Int) == 10) = false := by simp; omega
    go_upto_region 3 with (first | (go_at_call 34; refine (zeroGasList_any _).mono ?_; rintro e w21 ⟨rfl, b21⟩) | ((with_reducible show wpList _ _ _ _ _ _); refine wpList_index_arr rfl 101 (.tmp 30) (.tmp 31) rfl 256 30 .u16 Safg.under101 Safg.under30 Safg.sizeOf30 zgL rfl o .u8 rfl ho256 _ zg ?_))
    have hk := hk.below b21
    have o13 := o13.below b21 o13.lt
    have B21 := B20.trans (b21.mono B20.size)
    clear b21 B20
    obtain rfl : gn = c := by rw [← HGG.out]; exact HGN.out
    go_upto_region 5 with fail
    go_upto_region 6 with (first | (go_at_call 35; refine (takesList_any _).mono ?_; rintro e w23 ⟨rfl, b23⟩) | ((with_reducible show wpList _ _ _ _ _ _); refine wpList_index_arr rfl 103 (.tmp 43) (.tmp 44) rfl 256 5 .u8 Safg.under103 Safg.under5' Safg.sizeOf5' tkL rfl o .u8 rfl ho256 _ tk ?_))
    have hk := hk.below b23
    have o13 := o13.below b23 o13.lt
    have B23 := B21.trans (b23.mono B21.size)
    clear b23 B21
    have d46 : w23.cell? ⟨g10, 46, none⟩ = some (.slice (some ⟨gB, 0, none⟩) 3 3) := hk.k10.get rfl
    have d4 : w23.cell? ⟨g10, 4, none⟩ = some (.int .u64 (gas : Int)) := hk.k10.get rfl
    have tg : decide ((gas : Int) < (gn : Int)) = false := decide_eq_false (by omega)
    go_upto_region 8 with fail
    go_upto_region 9 with (first | ((with_reducible show wpList _ _ _ _ _ _); refine wpList_load_mid rfl 36 (.tmp 10) rfl g10 0 rfl (vL 99 gas (.slice (some ⟨gB, 0, none⟩) 3 3)) _ hk.k10.cell u36 rfl Safg.size36 ?_) | ((with_reducible show wpList _ _ _ _ _ _); refine wpList_alloc_agg rfl 36 rfl _ Safg.zero36 ?_; intro w24 g17 hg17 k17 b24) | ((with_reducible show wpList _ _ _ _ _ _); refine wpList_store_agg rfl 36 (.tmp 17) _ rfl g17 rfl v0 (vL 99 gas (.slice (some ⟨gB, 0, none⟩) 3 3)) rfl k17 rfl Safg.size36 (vL_one _ _ _ rfl) ?_; intro w25 k25 n25))
    have f17 := hk.fresh hg17
    have w17 : w.heap.size ≤ g17 := Nat.le_trans B23.size hg17
    have n13 : g13 ≠ g17 := by have := o13.lt; omega
    have hk := (hk.below b24).only n25 f17
    have o13 := n25.own (o13.below b24 o13.lt) n13
    have B25 := (B23.trans (b24.mono B23.size)).trans (n25.below w17)
    clear b24 n25 B23 d46 d4 k17
    have l17 := k25.lt; have l13 := o13.lt
    clear zg tk q1 te tg dR vv vw
    have d46 : w25.cell? ⟨g10, 46, none⟩ = some (.slice (some ⟨gB, 0, none⟩) 3 3) := hk.k10.get rfl
    have e46 : w25.cell? ⟨g17, 46, none⟩ = some (.slice (some ⟨gB, 0, none⟩) 3 3) := k25.get rfl
    have z46 := k25.free 46
    go_upto_region 10 with ((with_reducible show wpList _ _ _ _ _ _); refine wpList_append_rows rfl _ _ rfl w.heap.size (.slice none 0 0) 0 [] rfl (.inl ⟨rfl, rfl, rfl⟩) ⟨gB, 0, none⟩ 1 3 (cellsL (beL (ws 0))) rfl (by simp [cellsL_length, beL_length]) (news_1 hk.sB) (news_one1 _) (by decide) 1 rfl (by decide) B25.size ?_; intro gR capR w26 hgR rR hcR hmR tR horR; have e46' : w26.cell? ⟨g17, 46, none⟩ = some (.slice (some ⟨gB, 0, none⟩) 3 3) := (by rw [tR.cell (p := ⟨g17, 46, none⟩) l17 (by simp [Value.ownBlock])]; exact e46); have z46' : w26.frozen? ⟨g17, 46, none⟩ = false := (by rw [tR.frozen (p := ⟨g17, 46, none⟩) l17 (by simp [Value.ownBlock])]; exact z46))
    have tR : Turn [] w25 w26 := tR
    have hgR2 : w25.heap.size ≤ gR := by rcases horR with h | h; simp [Value.ownBlock] at h; exact h
    have fR := hk.fresh hgR2
    have rne : gR ≠ g17 := by omega
    have rn13 : g13 ≠ gR := by omega
    have k26 := OS.blk_turn k25 tR (by simp)
    have hk := hk.turn tR (by simp) (by simp) (by simp) (by simp) (by simp) (by simp) (by simp)
    have o13 := tR.own o13 (by simp)
    have B26 := B25.trans (tR.below B25.size (by simp))
    have n27 := (Only.refl g17 w26).setCell 46 (.slice (some ⟨gR, 0, none⟩) 1 capR)
    have k27 := k26.set (k := 46) (by rw [vL_length]; omega) (.slice (some ⟨gR, 0, none⟩) 1 capR)
    rw [vL_st] at k27
    have hk := hk.only n27 f17
    have o13 := n27.own o13 n13
    have B27 := B26.trans (n27.below w17)
    have rR := rR.turn (Turn.of_only n27) (by simpa using rne)
    rw [List.nil_append] at rR
    clear n27 B25 B26 d46 e46 e46' z46 z46' k25 k26 tR horR
    generalize w26.setCell ⟨g17, 46, none⟩ (.slice (some ⟨gR, 0, none⟩) 1 capR) = w27 at *
    have f46 : w27.cell? ⟨g17, 46, none⟩ = some (.slice (some ⟨gR, 0, none⟩) 1 capR) := k27.get rfl
    go_upto_region 11 with (first | ((with_reducible show wpList _ _ _ _ _ _); refine wpList_load_arr rfl 22 (.tmp 13) rfl g13 rfl (beL s) o13 32 5 Safg.underlying22 (by rw [beL_length]; exact Safg.size22) ?_) | ((with_reducible show wpList _ _ _ _ _ _); refine wpList_slice1 rfl 34 51 (.tmp 71) rfl (cellsL (beL s)) rfl Safg.under34 (by rw [cellsL_length, beL_length]; exact Safg.size51) (by rw [cellsL_length, beL_length]; exact Safg.zcells51) (by rw [cellsL_length, beL_length]; decide) (by rw [cellsL_length, beL_length]; decide) ?_; intro w28 g1 hg1 k1 b28) | ((with_reducible show wpList _ _ _ _ _ _); have RR := rR.turn (Turn.of_below b28 (Nat.le_refl _) []) (by simp); refine wpList_append_rows rfl _ _ rfl w.heap.size (.slice (some ⟨gR, 0, none⟩) 1 capR) 1 (cellsL (beL (ws 0))) rfl (.inr ⟨gR, capR, rfl, hgR, RR, by simp [cellsL_length, beL_length], hcR, hmR⟩) ⟨g1, 0, none⟩ 1 1 (cellsL (beL s)) rfl (by rw [cellsL_length, beL_length]) (fun j u hu => by rw [Addr.add_mid]; exact k1.cell j u hu) (news_one1 _) (by decide) 2 rfl (by decide) (Nat.le_trans B27.size b28.size) ?_; intro gN capN w29 hgN rN hcN hmN tN horN; have k28 := k27.below b28 k27.lt; have k29 := OS.blk_turn k28 tN (by simp [Value.ownBlock]; exact Ne.symm rne); have g46 : w29.cell? ⟨g17, 46, none⟩ = some (.slice (some ⟨gR, 0, none⟩) 1 capR) := k29.get rfl; have y46 := k29.free 46))
    have hk := hk.below b28
    have tN : Turn [gR] w28 w29 := tN
    have hk := hk.turn tN (by simpa using fR.1) (by simpa using fR.2.1) (by simpa using fR.2.2.1) (by simpa using fR.2.2.2.1) (by simpa using fR.2.2.2.2.1) (by simpa using fR.2.2.2.2.2.1) (by simpa using fR.2.2.2.2.2.2)
    have nN : gN ≠ g17 := by rcases horN with h | h; (have h : gR = gN := (by simpa [Value.ownBlock] using h)); omega; have := k28.lt; omega
    have B29 := (B27.trans (b28.mono B27.size)).trans (tN.below (Nat.le_trans B27.size b28.size) (by intro i hi; obtain rfl : i = gR := (by simpa using hi); exact hgR))
    have n30 := (Only.refl g17 w29).setCell 46 (.slice (some ⟨gN, 0, none⟩) 2 capN)
    have k30 := k29.set (k := 46) (by rw [vL_length]; omega) (.slice (some ⟨gN, 0, none⟩) 2 capN)
    rw [vL_st] at k30
    have hk := hk.only n30 f17
    have B30 := B29.trans (n30.below w17)
    have rN := rN.turn (Turn.of_only n30) (by simpa using nN)
    clear n30 B27 B29 f46 g46 y46 k27 k28 k29 tN horN b28 k1 o13
    generalize w29.setCell ⟨g17, 46, none⟩ (.slice (some ⟨gN, 0, none⟩) 2 capN) = w30 at *
    have d3 : w30.cell? ⟨g17, 3, none⟩ = some (.int .u16 99) := k30.get rfl
    have z3 := k30.free 3
    have n31 := (Only.refl g17 w30).setCell 3 (.int .u16 100)
    have k31 := k30.set (k := 3) (by rw [vL_length]; omega) (.int .u16 ((100 : Nat) : Int))
    rw [vL_pc] at k31
    have d4 : (w30.setCell ⟨g17, 3, none⟩ (.int .u16 100)).cell? ⟨g17, 4, none⟩ = some (.int .u64 (gas : Int)) := k31.get rfl
    have z4 : (w30.setCell ⟨g17, 3, none⟩ (.int .u16 100)).frozen? ⟨g17, 4, none⟩ = false := k31.free 4
    have n32 := (Only.refl g17 (w30.setCell ⟨g17, 3, none⟩ (.int .u16 100))).setCell 4 (.int .u64 (gas' : Int))
    have k32 := k31.set (k := 4) (by rw [vL_length]; omega) (.int .u64 (gas' : Int))
    rw [vL_gas] at k32
    have hk := hk.only (n31.trans n32) f17
    have B32 := B30.trans ((n31.trans n32).below w17)
    have rN := rN.turn (Turn.of_only (n31.trans n32)) (by simpa using nN)
    have eg : (gas : Int) - (gn : Int) = (gas' : Int) := by omega
    have qg : IntKind.u64.wrap (gas' : Int) = (gas' : Int) := by simp [IntKind.wrap, IntKind.bits, IntKind.signed]; omega
    clear k30 k31 n31 n32 B30
    go_upto_region 13 with fail
    clear d3 z3 d4 z4
    have k32 : Blk ((w30.setCell ⟨g17, 3, none⟩ (.int .u16 100)).setCell ⟨g17, 4, none⟩ (.int .u64 (gas' : Int))) g17 (vL 100 gas' (.slice (some ⟨gN, 0, none⟩) 2 capN)) := k32
    generalize (w30.setCell ⟨g17, 3, none⟩ (.int .u16 100)).setCell ⟨g17, 4, none⟩ (.int .u64 (gas' : Int)) = w32 at *
    have sN : StB w32 gN 2 2 (MF.lay ws 1 s) := stb_2 (f := MF.lay ws 1 s) rN
    have HM := viewsMeet_eq w32 100 gas' gS 2 gN capN 2 (MF.lay ws 1 s) hk.sS sN (by omega)
    go_wp2_with (first | (refine wpList_load_mid rfl 36 (.tmp 11) rfl g11 0 rfl (vL 100 gas' (.slice (some ⟨gS, 0, none⟩) 2 2)) _ hk.k11.cell u36 rfl Safg.size36 ?_) | (refine wpList_load_mid rfl 36 (.tmp 17) rfl g17 0 rfl (vL 100 gas' (.slice (some ⟨gN, 0, none⟩) 2 capN)) _ k32.cell u36 rfl Safg.size36 ?_) | (go_at_call 36; refine HM.mono ?_; rintro e w33 ⟨rfl, b33⟩))
    go_ret
    exact ⟨rfl, B32.trans (b33.mono B32.size)⟩
end Go.Proofs.YgcsafGreat
