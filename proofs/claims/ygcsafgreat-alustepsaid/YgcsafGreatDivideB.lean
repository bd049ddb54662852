import Derived.Test.YgcsafGreatDivide
namespace Go.Proofs.YgcsafGreat
open Go.RowKit
set_option linter.unusedVariables false
set_option linter.unusedSimpArgs false

set_option maxRecDepth 100000 in
set_option maxHeartbeats 4000000 in
theorem divide_big (w : World) (g : Nat) (X : List Nat) (b : Wd4) (hb : b.Ok) (own : OwnU w g X) (hX : X.length = 8) (lX : Lim X) (n top : Nat) (hl : IsLimbs b.l n) (ht : IsLimbs X top) (hn2 : 2 ≤ n) (hlt : n ≤ top) :
    Calls Safg.prog 378 #[.pointer (some ⟨g, 0, none⟩), b.v] w (DivPost w g X b) := by
  have hglt := own.lt
  go_enter Safg.func378, Safg.ntmps378
  go_upto_region 1 with (first | (refine wpList_box_agg rfl 65 (.tmp 1) rfl b.cells rfl ?_; intro w1 g3 hg3 k3 c3) | (refine wpList_alloc_agg rfl 65 rfl _ Safg.zero65 ?_; intro w2 g4 hg4 k4 c4) | (refine wpList_alloc_agg rfl 351 rfl _ Safg.zero351 ?_; intro w3 g5 hg5 k5 c5))
  have k3' := (k3.below c4 k3.lt).below c5 (Nat.lt_of_lt_of_le k3.lt c4.size)
  have k4' := k4.below c5 k4.lt
  have b03 : Below w.heap.size w w3 := (c3.trans (c4.mono c3.size)).trans (c5.mono (Nat.le_trans c3.size c4.size))
  have own3 := own.below b03 hglt
  have hs1 := c3.size
  have hs2 := c4.size
  have hs3 := c5.size
  have hgl4 := k4.lt
  have hgl3 := k3.lt
  have hgl5 := k5.lt
  have g34 : g3 ≠ g4 := by omega
  have g35 : g3 ≠ g5 := by omega
  have g45 : g4 ≠ g5 := by omega
  have gg3 : g ≠ g3 := by omega
  have gg4 : g ≠ g4 := by omega
  have gg5 : g ≠ g5 := by omega
  clear c3 c4 c5 k3 k4
  have hn4 : n ≤ 4 := hl.le
  have hn0 : ((n : Int) == 0) = false := by simp; omega
  go_upto_region 6 with (first | (refine wpList_load_mid rfl 65 (.tmp 3) rfl g3 0 rfl _ _ k3'.cell Safg.under65 rfl Safg.size65 ?_) | (go_at_call 187; refine (limbs_any _ b hb).mono ?_; rintro e w4 ⟨n', hn', isl, rfl, b4⟩; obtain rfl := IsLimbs.unique isl hl))
  have own4 := own3.below b4 (by omega)
  have q3 : Blk w4 g3 b.cells := k3'.below b4 (by omega)
  have q4 : Blk w4 g4 Wd4.zero.cells := k4'.below b4 (by omega)
  have q5 : Blk w4 g5 (pth 0 0 0) := k5.below b4 (by omega)
  have T4 : Turn [g] w w4 := (Turn.of_below b03 (Nat.le_refl _) [g]).trans (Turn.of_below b4 (Nat.le_refl _) [g])
  have hlt3 := q3.lt
  have hlt4 := q4.lt
  have hlt5 := q5.lt
  have hltg := own4.lt
  have hsz4 := b4.size
  clear k3' k4' k5 own3 b03 b4
  have ht8 : top ≤ 8 := by have := ht.le; omega
  go_loop [7] (fun i => ∃ k : Nat, i = .int .u8 k ∧ top ≤ k ∧ k ≤ 8) (fun i => (intOf i).toNat)
  case atStart => exact ⟨8, rfl, ht8, Nat.le_refl _⟩
  case round =>
    obtain ⟨k, rfl, hk1, hk2⟩ := hrel
    by_cases hkt : top < k
    · obtain ⟨k, rfl⟩ : ∃ j, k = j + 1 := ⟨k - 1, by omega⟩
      have c2 := own4.cell k (by omega)
      rw [ht.zero k (by omega)] at c2
      have hki : ((k + 1 : Nat) : Int) - 1 = (k : Int) := by omega
      have hki2 : (k : Int) + 1 - 1 = (k : Int) := by omega
      have t0 : decide ((0 : Int) < (k : Int) + 1) = true := decide_eq_true (by omega)
      go_wp2
      go_round
      case rel => exact ⟨k, by go_num, by omega, by omega⟩
      case measure => simp [intOf]
    · obtain rfl : top = k := by omega
      obtain ⟨m, rfl⟩ : ∃ j, top = j + 1 := ⟨top - 1, by omega⟩
      have c2 := own4.cell m (by omega)
      have hx0 := ht.top (by omega)
      rw [Nat.add_sub_cancel] at hx0
      obtain ⟨x, HX⟩ : ∃ x, Hid (X.getD m 0 = x) := ⟨_, rfl⟩
      rw [HX.out] at c2 hx0
      have t1 : ((x : Int) == 0) = false := by simp [hx0]
      have hki : ((m + 1 : Nat) : Int) - 1 = (m : Int) := by omega
      have hki2 : (m : Int) + 1 - 1 = (m : Int) := by omega
      have t0 : decide ((0 : Int) < (m : Int) + 1) = true := decide_eq_true (by omega)
      have t4 : decide ((m : Int) + 1 < (n' : Int)) = false := decide_eq_false (by omega)
      have t5 : ((n' : Int) == 1) = false := by simp; omega
      have cp0 := q5.get (j := 0) (v := .int .u8 0) rfl
      have fp0 := q5.free 0
      obtain ⟨R, HR⟩ : ∃ R : Nat, Hid (m + 2 - n' = R) := ⟨_, rfl⟩
      have er1 : (m : Int) + 1 - (n' : Int) + 1 = (R : Int) := by have := HR.out; omega
      go_upto_region 16 with fail
      have o5 : Only g5 w4 (w4.setCell ⟨g5, 0, none⟩ (.int .u8 (R : Int))) := (Only.refl g5 w4).setCell _ _
      have s5 : Blk (w4.setCell ⟨g5, 0, none⟩ (.int .u8 (R : Int))) g5 (pth (R : Int) 0 0) := q5.set (k := 0) (by simp [pth]) _
      generalize w4.setCell ⟨g5, 0, none⟩ (.int .u8 (R : Int)) = w5 at *
      have own5 := own4.only o5 gg5
      have s3 := o5.blk q3 g35
      have s4 := o5.blk q4 g45
      have T5 : Turn [g] w w5 := T4.then_ (S' := [g5]) (Turn.of_only o5) (fun i hi hlt => absurd hlt (by simp at hi; omega))
      have z5 := o5.size
      clear cp0 fp0 own4 q3 q4 q5 T4 c2
      clear t0 t1 t4 er1 hki hki2
      go_upto_region 17 with (refine wpList_alloc_agg rfl 435 rfl _ Safg.zero435 ?_; intro w6 g8 hg8 k8 c8)
      have own6 := (own5.below c8 (by omega)).same (Same.drew w6)
      have o8 := k8.ownU.same (Same.drew w6)
      have g8l := k8.lt
      go_region_held3 (fun w' => True) (first | exact trivial) (first | (refine wp_copyU _ _ rfl g8 g 9 9 8 8 rfl rfl (by omega) (List.replicate 9 0) X rfl hX o8 own6 ?_; intro w7 own7 o7))
      have b67 : Below w5.heap.size w5 w7 := (c8.trans ((Same.drew w6).below _)).trans (o7.below (by omega))
      have own7x := own5.below b67 (by omega)
      have u3 : OwnU w7 g3 b.l := Blk.ownU (L := b.l) (s3.below b67 (by omega))
      have u4 := s4.below b67 (by omega)
      have u5 := s5.below b67 (by omega)
      have T7 : Turn [g] w w7 := T5.trans (Turn.of_below b67 (Nat.le_refl _) [g])
      have z7 := b67.size
      have HU0 : Hid (wv (X ++ (List.replicate 9 0).drop 8) 0 9 = wv X 0 8) := by
        show _ = _
        rw [wv_drop (n := 8) (m := 9) (by omega) (fun i h1 h2 => by
          obtain rfl : i = 8 := by omega
          simp only [List.getD_eq_getElem?_getD]
          rw [List.getElem?_append_right (by omega), hX]; rfl)]
        exact wv_congr fun j hj => by
          rw [Nat.zero_add]
          simp only [List.getD_eq_getElem?_getD]
          rw [List.getElem?_append_left (by omega)]
      have lU0 : Lim (X ++ (List.replicate 9 0).drop 8) := by
        intro x hx
        rcases List.mem_append.1 hx with h | h
        · exact lX x h
        · have : x = 0 := by simpa using h
          omega
      have nU0 : (X ++ (List.replicate 9 0).drop 8).length = 9 := by simp [hX]
      generalize X ++ (List.replicate 9 0).drop 8 = U0 at *
      have g83 : g3 ≠ g8 := by omega
      have g84 : g4 ≠ g8 := by omega
      have g85 : g5 ≠ g8 := by omega
      have gg8 : g ≠ g8 := by omega
      have cy := u3.cell (n' - 1) (by show n' - 1 < 4; omega)
      have hyl := (Wd4.lim hb).getD (n' - 1)
      have htopb := hl.top (by omega)
      have HL := Lead64_any w7 ((b.l).getD (n' - 1) 0) hyl
      obtain ⟨sh, HSH⟩ : ∃ sh, Hid (64 - Lib.bitLen (b.l.getD (n' - 1) 0) = sh) := ⟨_, rfl⟩
      rw [HSH.out] at HL
      have hsh : sh < 64 := (norm_shift hyl htopb HSH.out).1
      have HB4 : Hid (b.l = [b.x0, b.x1, b.x2, b.x3]) := rfl
      change w7.cell? ⟨g3, n' - 1, none⟩ = some (.int .u64 (((b.l).getD (n' - 1) 0 : Nat) : Int)) at cy
      obtain ⟨y, HY⟩ : ∃ y, Hid (b.l.getD (n' - 1) 0 = y) := ⟨_, rfl⟩
      rw [HY.out] at cy HL hyl htopb
      have hni : (n' : Int) - 1 = ((n' - 1 : Nat) : Int) := by omega
      clear T5 own5 s3 s4 s5 own6 o8 k8 c8 o5 b67 o7
      go_upto_region 19 with (go_at_call 371; refine HL.mono ?_; rintro e w8 ⟨rfl, hw⟩; subst hw)
      go_upto_region 20 with (go_at_call 372; refine (shiftUp_any _ g8 9 9 sh U0 own7 lU0 (by omega) hsh (by omega)).mono ?_; rintro e w9 ⟨U1, cu, rfl, ownU, oU, lU1, wiU, hcu, EU⟩)
      have u3' := u3.only oU g83
      go_upto_region 21 with (go_at_call 372; refine (shiftUp_any _ g3 4 4 sh b.l u3' (Wd4.lim hb) (Nat.le_refl _) hsh (by omega)).mono ?_; rintro e w10 ⟨V1, cv, rfl, ownV, oV, lV1, wiV, hcv, EV⟩)
      have own10 := (own7x.only oU gg8).only oV gg3
      go_upto_region 22 with (refine wpList_clearU rfl _ rfl g 7 8 rfl X hX own10 ?_; intro w11 own11 o11)
      obtain ⟨nv1, nv2, nv3, nv4, nv5⟩ := norm_div hb lV1 hl (by omega) HSH.out EV (by rw [wiV.1]; rfl)
      obtain ⟨v, hv⟩ := list4 (L := V1) (by rw [wiV.1]; rfl)
      subst hv
      have hvok : v.Ok := Lim.ok lV1
      have HN4 : Hid (wv v.l 0 n' = b.val * 2 ^ sh) := nv4
      have IV0 : Hid (DivInv (wv X 0 8) v.l n' sh R U1 (List.replicate 8 0)) := by
        have h1 : wv X 0 8 = wv X 0 (m + 1) := wv_drop (by omega) (fun i h1 _ => ht.zero i h1)
        rw [HU0.out] at EU
        have h2 := no_carry EU (wv_lt lX 0 8) hsh
        have h3 := DivInv.start (V := v.l) (K := List.replicate 8 0) (top := m + 1) hlt (by omega) hsh (by rw [h1]; exact wv_lt lX 0 (m + 1)) h2 (by rw [wiU.1]; exact nU0) rfl lU1 (getD_replicate 8) (lim_replicate 8) (by omega) nv5
        rw [show m + 1 - n' + 1 = R by have := HR.out; omega] at h3
        exact h3
      have e5 : Blk w11 g5 (pth (R : Int) 0 0) := o11.blk (oV.blk (oU.blk u5 g85) (Ne.symm g35)) (Ne.symm gg5)
      have e4 : Blk w11 g4 Wd4.zero.cells := o11.blk (oV.blk (oU.blk u4 g84) (Ne.symm g34)) (Ne.symm gg4)
      have e3 : OwnU w11 g3 v.l := ownV.only o11 (Ne.symm gg3)
      have e8 : OwnU w11 g8 U1 := (ownU.only oV (Ne.symm g83)).only o11 (Ne.symm gg8)
      have hsz9 := oU.size
      have hsz10 := oV.size
      have hsz11 := o11.size
      have T11 : Turn [g] w w11 := ((T7.then_ (S' := [g8]) (Turn.of_only oU) (fun i hi hlt => absurd hlt (by simp at hi; omega))).then_ (S' := [g3]) (Turn.of_only oV) (fun i hi hlt => absurd hlt (by simp at hi; omega))).trans (Turn.of_only o11)
      have cR := e5.get (j := 0) (v := .int .u8 (R : Int)) rfl
      have hR8 : R + n' ≤ 9 := by have := HR.out; omega
      clear own7x u3 u3' u4 u5 T7 HU0 own7 own10 oU oV o11 EU EV wiU wiV nv1 nv4 nv5 HL cy lU0 nU0 lU1
      go_upto_region 23 with fail
      clear cR
      go_loopw [10] (fun jv wr => ∃ (j : Nat) (U K : List Nat) (i1 k1 : Int), jv = .int .u8 j ∧ j ≤ R ∧ OwnU wr g8 U ∧ OwnU wr g K ∧ OwnU wr g3 v.l ∧ Blk wr g5 (pth R i1 k1) ∧ Blk wr g4 Wd4.zero.cells ∧ Turn [g] w wr ∧ w11.heap.size ≤ wr.heap.size ∧ DivInv (wv X 0 8) v.l n' sh j U K) (fun jv _ => (intOf jv).toNat)
      case atStart => exact ⟨R, U1, List.replicate 8 0, 0, 0, rfl, Nat.le_refl _, e8, own11, e3, e5, e4, T11, Nat.le_refl _, IV0.out⟩
      case round =>
        obtain ⟨j, U, K, i1, k1, rfl, hjR, a8, ag, a3, a5, a4, aT, asz, inv⟩ := hrel
        have IV : Hid (DivInv (wv X 0 8) v.l n' sh j U K) := inv
        clear inv
        by_cases hj0 : j = 0
        · subst hj0
          obtain ⟨U4, HU4⟩ : ∃ U4 : Wd4, U4.l = U.take 4 := list4 (by simp [IV.out.u9])
          have HU4' : Hid (U4.l = U.take 4) := HU4
          have hU4ok : U4.Ok := Lim.ok (by rw [HU4]; intro x hx; exact IV.out.limU x (List.mem_of_mem_take hx))
          have rgU : wr.rangeAt g8 0 U4.cells := fun j v hv => by
            rw [Wd4.cellsU] at hv
            obtain ⟨hj, rfl⟩ := cellsU_get _ j v hv
            have hj4 : j < 4 := hj
            have e : U4.l.getD j 0 = U.getD j 0 := by
              rw [HU4]
              simp only [List.getD_eq_getElem?_getD, List.getElem?_take, if_pos hj4]
            rw [Nat.zero_add, a8.cell j (by rw [IV.out.u9]; omega)]
            show _ = some (Value.int IntKind.u64 ((U4.l.getD j 0 : Nat) : Int))
            rw [e]
          have HF : Hid (wv U 0 4 = wv U4.l 0 4) := wv_congr fun j hj => by
            rw [HU4, Nat.zero_add]
            simp only [List.getD_eq_getElem?_getD, List.getElem?_take, if_pos hj]
          clear HU4
          have f5 := a5.lt
          have f4 := a4.lt
          have fg := ag.lt
          go_upto_region 31 with (first | (refine wpList_arrayPtr rfl 65 _ rfl (some ⟨g8, 0, none⟩) 4 9 4 31 rfl Safg.under65 (Nat.le_refl _) ?_) | (refine wpList_load_mid rfl 65 (.tmp 115) rfl g8 0 rfl U4.cells _ rgU Safg.under65 rfl Safg.size65 ?_) | (refine wpList_store_agg rfl 65 _ _ rfl g4 rfl _ U4.cells rfl a4 rfl Safg.size65 (Wd4.one _) ?_; intro w12 r4 o12))
          have r4' : OwnU w12 g4 U4.l := Blk.ownU (L := U4.l) r4
          have z12 := o12.size
          go_upto_region 32 with (go_at_call 374; refine (shiftDown_any _ g4 4 4 sh U4.l r4' (Wd4.lim hU4ok) (Nat.le_refl _) hsh (by omega)).mono ?_; rintro e w13 ⟨R1, rfl, t4, o13, lR1, abR, ER⟩)
          obtain ⟨rr, hrr⟩ := list4 (L := R1) (by rw [abR.1]; rfl)
          subst hrr
          have hrok : rr.Ok := Lim.ok lR1
          have m4 : Blk w13 g4 rr.cells := t4.blk
          have m5 : Blk w13 g5 (pth R i1 k1) := o13.blk (o12.blk a5 (Ne.symm g45)) (Ne.symm g45)
          have mg : OwnU w13 g K := (ag.only o12 gg4).only o13 gg4
          have mT : Turn [g] w w13 := (aT.then_ (S' := [g4]) (Turn.of_only o12) (fun i hi hlt => absurd hlt (by simp at hi; omega))).then_ (S' := [g4]) (Turn.of_only o13) (fun i hi hlt => absurd hlt (by simp at hi; omega))
          have HFIN : Hid (rr.val < b.val ∧ wv X 0 8 = wv K 0 8 * b.val + rr.val) := by
            have := IV.out.done hn4 HN4.out
            rw [HF.out, ← ER, ← Wd4.val_wv] at this
            exact this
          clear rgU a4 a5 ag a8 a3 aT r4 r4' t4 o12 o13 ER
          refine wp_region_held_drew (S := fun w' => w' = w13.drew) (by kernel_rfl) rfl (fun hHeld => ?_)
          refine wpAnyH_take' (i := 0) (d := 120) (v := .agg rr.cells.toArray) rfl rfl (by kernel_rfl) (by kernel_rfl) (by kernel_rfl) (fun _ _ _ h => h) (yieldsIf_load_mid (by rfl) 65 _ rfl g4 0 rfl rr.cells _ (fun w hw => by subst hw; exact ((Same.drew _).blk m4).cell) Safg.under65 rfl Safg.size65) hHeld ?_
          simp only [Act.put, List.setIfInBounds_toArray, List.set_cons_zero, List.set_cons_succ]
          refine wpAnyH_take' (i := 1) (d := 121) (v := .agg (pth R i1 k1).toArray) rfl rfl (by kernel_rfl) (by kernel_rfl) (by kernel_rfl) (fun _ _ _ h => h) (yieldsIf_load_mid (by rfl) 351 _ rfl g5 0 rfl (pth R i1 k1) _ (fun w hw => by subst hw; exact ((Same.drew _).blk m5).cell) Safg.underlying351 rfl Safg.size351) hHeld ?_
          simp only [Act.put, List.setIfInBounds_toArray, List.set_cons_zero, List.set_cons_succ]
          refine wpAnyH_ready (rs := [2]) (by kernel_rfl) (by simp) ?_
          refine AllReadyH.cons rfl (fun K hK => ?_) AllReadyH.nil
          rw [if_pos (by rfl)]
          refine wp_store_mid 65 _ _ rfl g4 0 rr.cells.toArray rfl rfl (self_there ((Same.drew _).blk m4)) Safg.size65 (all_oneCell_toArray (Wd4.one _)) ?_
          rw [setCells_self _ _ ((Same.drew _).blk m4).cell]
          refine hK.out _ _ rfl (fun hHeld => ?_)
          clear hK K
          refine wpAnyH_ready (rs := [3]) (by kernel_rfl) (by simp) ?_
          refine AllReadyH.cons rfl (fun K hK => ?_) AllReadyH.nil
          rw [if_pos (by rfl)]
          refine wp_store_mid 351 _ _ rfl g5 0 (pth R i1 k1).toArray rfl rfl (self_there ((Same.drew _).blk m5)) Safg.size351 (all_oneCell_toArray (pth_one _ _ _)) ?_
          rw [setCells_self _ _ ((Same.drew _).blk m5).cell]
          refine hK.out _ _ rfl (fun hHeld => ?_)
          clear hK K
          refine wpAnyH_done (by kernel_rfl) ?_ _
          go_wp2
          refine bodyPost_ret (results_cell2 Safg.results378 _ _ g4 g5 rr.cells (pth R i1 k1) _ _ rfl rfl ((Same.drew _).blk m4) ((Same.drew _).blk m5) Safg.under65 rfl Safg.size65 Safg.underlying351 rfl Safg.size351) rfl ?_
          refine ⟨K, rr, _, _, _, rfl, IV.out.k8, IV.out.limK, hrok, mg.same (Same.drew _), mT.trans (Turn.drew _ _), fun h => absurd (limbs_pos hl (by omega)) (by omega), fun _ => HFIN.out⟩
        · obtain ⟨j, rfl⟩ : ∃ i, j = i + 1 := ⟨j - 1, by omega⟩
          have hji : ((j + 1 : Nat) : Int) - 1 = (j : Int) := by omega
          have hji2 : (j : Int) + 1 - 1 = (j : Int) := by omega
          have tj : decide ((0 : Int) < (j : Int) + 1) = true := decide_eq_true (by omega)
          have HM : Hid (Mid U v.l j n') := IV.out.mid nv3
          have HZ : Hid (∀ i, j + n' < i → U.getD i 0 = 0) := fun i hi => IV.out.zero i (by omega)
          obtain ⟨q, HQ⟩ : ∃ q, Hid (wv U j (n' + 1) / wv v.l 0 n' = q) := ⟨_, rfl⟩
          have hq : q < 18446744073709551616 := by
            rw [← HQ.out, ← b64_eq, Nat.div_lt_iff_lt_mul HM.out.pos, wv_low]
            have h1 := HM.out.lt
            have h2 := IV.out.limU.getD j
            rw [← b64_eq] at h2
            have h3 : b64 * (wv U (j + 1) n' + 1) ≤ b64 * wv v.l 0 n' := Nat.mul_le_mul_left _ h1
            rw [Nat.mul_add, Nat.mul_one] at h3
            omega
          go_upto_region 26 with (go_at_call 397; refine (Round_any _ g8 g3 j n' U v hvok g83 a8 a3 IV.out.limU IV.out.u9 hn2 hn4 (by omega) HM.out HZ.out nv2).mono ?_; rintro e w13 ⟨w12, b12, U', ⟨f, bk, rfl⟩, d8, dO, dL, dW, dE⟩; rw [HQ.out])
          have hz12 := b12.size
          have hz13 := dO.size
          have f8 := a8.lt
          have fg := ag.lt
          have f3 := a3.lt
          have f5 := a5.lt
          have f4 := a4.lt
          have HN : Hid (DivInv (wv X 0 8) v.l n' sh j U' (K.set j q)) := by
            have hqlt : wv U j (n' + 1) / wv v.l 0 n' < 18446744073709551616 := by rw [HQ.out]; exact hq
            have := IV.out.step (by omega) (by omega) lV1 dW dL dE hqlt
            rw [HQ.out] at this
            exact this
          have dg := (ag.below b12 fg).only dO gg8
          have d3 := (a3.below b12 f3).only dO g83
          have d5 := dO.blk (a5.below b12 f5) g85
          have d4 := dO.blk (a4.below b12 f4) g84
          have dT : Turn [g] w w13 := (aT.trans (Turn.of_below b12 (Nat.le_refl _) [g])).then_ (S' := [g8]) (Turn.of_only dO) (fun i hi hlt => absurd hlt (by simp at hi; omega))
          have dcell := dg.cell j (by have := IV.out.k8; omega)
          have dfr := dg.free j
          clear a8 ag a3 a5 a4 aT b12 dO
          go_upto_region 27 with fail
          have o14 : Only g w13 (w13.setCell ⟨g, j, none⟩ (.int .u64 (q : Int))) := (Only.refl g w13).setCell _ _
          have xg : OwnU (w13.setCell ⟨g, j, none⟩ (.int .u64 (q : Int))) g (K.set j q) := dg.set (by have := IV.out.k8; omega) q
          generalize w13.setCell ⟨g, j, none⟩ (.int .u64 (q : Int)) = w14 at *
          have x8 := d8.only o14 (Ne.symm gg8)
          have x3 := d3.only o14 (Ne.symm gg3)
          have x5 := o14.blk d5 (Ne.symm gg5)
          have x4 := o14.blk d4 (Ne.symm gg4)
          have xT := dT.trans (Turn.of_only o14)
          have z14 := o14.size
          have xc1 := x5.get (j := 1) (v := .int .u8 i1) rfl
          have xf1 := x5.free 1
          clear dcell dfr d8 d3 d5 d4 dT dg o14
          go_upto_region 28 with fail
          obtain ⟨i2, HI2⟩ : ∃ i : Int, Hid ((i1 + f) % 256 = i) := ⟨_, rfl⟩
          rw [HI2.out]
          have o15 : Only g5 w14 (w14.setCell ⟨g5, 1, none⟩ (.int .u8 i2)) := (Only.refl g5 w14).setCell _ _
          have y5 : Blk (w14.setCell ⟨g5, 1, none⟩ (.int .u8 i2)) g5 (pth R i2 k1) := x5.set (k := 1) (by simp [pth]) _
          generalize w14.setCell ⟨g5, 1, none⟩ (.int .u8 i2) = w15 at *
          have y8 := x8.only o15 (Ne.symm g85)
          have y3 := x3.only o15 g35
          have yg := xg.only o15 gg5
          have y4 := o15.blk x4 g45
          have yT : Turn [g] w w15 := xT.then_ (S' := [g5]) (Turn.of_only o15) (fun i hi hlt => absurd hlt (by simp at hi; omega))
          have z15 := o15.size
          have yc2 := y5.get (j := 2) (v := .int .u8 k1) rfl
          have yf2 := y5.free 2
          clear xc1 xf1 x8 x3 xg x4 x5 xT o15
          cases bk
          · go_wp2
            go_roundw
            case rel => exact ⟨j, U', K.set j q, i2, k1, by go_num, by omega, y8, yg, y3, y5, y4, yT, by omega, HN.out⟩
            case measure => simp [intOf]
          · go_upto_region 24 with fail
            obtain ⟨k2, HK2⟩ : ∃ i : Int, Hid ((k1 + 1) % 256 = i) := ⟨_, rfl⟩
            rw [HK2.out]
            have o16 : Only g5 w15 (w15.setCell ⟨g5, 2, none⟩ (.int .u8 k2)) := (Only.refl g5 w15).setCell _ _
            have v5 : Blk (w15.setCell ⟨g5, 2, none⟩ (.int .u8 k2)) g5 (pth R i2 k2) := y5.set (k := 2) (by simp [pth]) _
            generalize w15.setCell ⟨g5, 2, none⟩ (.int .u8 k2) = w16 at *
            have v8 := y8.only o16 (Ne.symm g85)
            have v3 := y3.only o16 g35
            have vg := yg.only o16 gg5
            have v4 := o16.blk y4 g45
            have vT : Turn [g] w w16 := yT.then_ (S' := [g5]) (Turn.of_only o16) (fun i hi hlt => absurd hlt (by simp at hi; omega))
            have z16 := o16.size
            clear yc2 yf2 y8 y3 yg y4 y5 yT o16
            go_wp2
            go_roundw
            case rel => exact ⟨j, U', K.set j q, i2, k2, by go_num, by omega, v8, vg, v3, v5, v4, vT, by omega, HN.out⟩
            case measure => simp [intOf]
end Go.Proofs.YgcsafGreat
