/-
  The model's 'Load32' (69), 'Store32' (70), 'Store8' (71), 'Move' (72), 'Write' (74).
-/
import Derived.Test.YgcsafMod4
namespace Go.Proofs.Ygcsaf
open Go.RowKit
set_option linter.unusedVariables false
set_option linter.unusedSimpArgs false

theorem readF_word {F : List (List Nat)} {off : Nat} (h : hasF F off 32 = true) : readF F off 32 = wordF F off := by unfold readF; rw [if_pos h, wordF_yes h]
theorem readF_no {F : List (List Nat)} {off n : Nat} (h : hasF F off n = false) : readF F off n = [] := by unfold readF; rw [if_neg (by rw [h]; simp)]
theorem readF_yes {F : List (List Nat)} {off n : Nat} (h : hasF F off n = true) : readF F off n = subL (topF F) off n := by unfold readF; rw [if_pos h]
theorem readF_len {F : List (List Nat)} {off n : Nat} (h : hasF F off n = true) : (readF F off n).length = n := by
  obtain ⟨G, t, rfl, hle⟩ := hasF_true h
  rw [readF_yes h, topF_app, subL_length hle]

set_option maxRecDepth 100000 in
set_option maxHeartbeats 1000000 in
theorem mLoad32 (w : World) (B T : Nat) (col : Nat → Nat) (fv : Value) (fvs : List Value) (F : List (List Nat)) (h : Md B T w col fv fvs F) (hF : FOk F) (off : Nat) (ho : off < 4294967296) :
    Calls Safg.prog 69 #[.pointer (some ⟨T, 10, none⟩), .int .u32 (off : Int)] w fun e w' => e = .returned (.tuple #[arrV (wordF F off), .bool (hasF F off 32)]) ∧ Below w.heap.size w w' := by
  obtain ⟨q, HQ⟩ : ∃ q, Hid (hasF F off 32 = q) := ⟨_, rfl⟩
  rw [HQ.out]
  obtain ⟨W, HW⟩ : ∃ W, Hid (wordF F off = W) := ⟨_, rfl⟩
  rw [HW.out]
  have q30 := eqnil30
  go_enter Safg.func69, Safg.ntmps69
  go_upto_region 1 with (refine wpList_alloc_arr rfl 28 rfl 32 Safg.zero28 ?_; intro w1 g1 hg1 o1 b1)
  go_wp2_with fail
  refine (mRead w1 B T col fv fvs F (h.below b1) hF off 32 ho (by omega)).mono ?_
  rintro e w2 ⟨ra, rfl, hnil, hown, b2⟩
  have o2 := o1.below b2 o1.lt
  have BB : Hid (Below w.heap.size w w2) := b1.trans (b2.mono b1.size)
  cases q with
  | false =>
    have hr := readF_no HQ.out
    obtain rfl := hnil hr
    rw [hr]
    obtain rfl : W = List.replicate 32 0 := HW.out.symm.trans (wordF_no HQ.out)
    clear hr hnil hown
    go_wp2_with (first | (refine wpList_build0_arr rfl 28 rfl 32 5 Safg.underlying28 Safg.some5 Safg.zero28 ?_) | (refine wpList_store_arr rfl 28 _ _ rfl g1 rfl _ _ rfl o2 (by simp) Safg.size28 ?_; intro w3 o3 b3))
    have hload := run_loadVar_mid (P := Safg.prog) w3 g1 0 28 _ _ o3.range Safg.underlying28 rfl (by rw [cellsL_length]; exact Safg.size28)
    refine bodyPost_ret (v := .tuple #[arrV (List.replicate 32 0), .bool false]) ?_ rfl ⟨rfl, BB.out.trans (b3.below hg1)⟩
    rw [results_cell_tmp Safg.results69]
    simp [asAddr, hload, arrV]
  | true =>
    have hrl := readF_len HQ.out
    obtain ⟨g2, hg2, rfl, own2⟩ := hown (fun e => by rw [e] at hrl; simp at hrl)
    rw [readF_word HQ.out, HW.out] at own2 hrl
    rw [readF_word HQ.out, HW.out, hrl]
    have hr := own2.range
    clear hnil hown
    go_wp2_with (first | (refine wpList_arrayAt rfl _ rfl _ 32 32 rfl (Nat.le_refl _) ?_) | (refine wpList_load_mid rfl 28 _ rfl g2 0 rfl (cellsL W) _ hr Safg.underlying28 rfl (by rw [cellsL_length, hrl]; exact Safg.size28) ?_) | (refine wpList_store_arr rfl 28 _ _ rfl g1 rfl _ W rfl o2 (by simp [hrl]) Safg.size28 ?_; intro w3 o3 b3))
    have hload := run_loadVar_mid (P := Safg.prog) w3 g1 0 28 _ _ o3.range Safg.underlying28 rfl (by rw [cellsL_length, hrl]; exact Safg.size28)
    refine bodyPost_ret (v := .tuple #[arrV W, .bool true]) ?_ rfl ⟨rfl, BB.out.trans (b3.below hg1)⟩
    rw [results_cell_tmp Safg.results69]
    simp [asAddr, hload, arrV]

/-- A block that is new lies under no frame. -/
theorem Md.sep {B T : Nat} {w : World} {col : Nat → Nat} {fv : Value} {fvs : List Value} {F : List (List Nat)} (h : Md B T w col fv fvs F) {g : Nat} (hg : w.heap.size ≤ g) : ∀ (i : Nat) (v : Value), fvs[i]? = some v → v.ownBlock ≠ some g := by
  intro i v hv e
  have hi : i < fvs.length := (List.getElem?_eq_some_iff.1 hv).1
  have := ((h.fr i v _ hv (List.getElem?_eq_getElem (by rw [← h.len]; exact hi))).block_lt e).1
  omega

set_option maxHeartbeats 1000000 in
theorem mStore32 (w : World) (B T : Nat) (col : Nat → Nat) (fv : Value) (fvs : List Value) (F : List (List Nat)) (h : Md B T w col fv fvs F) (hF : FOk F) (off : Nat) (W : List Nat) (ho : off < 4294967296) (hW : W.length = 32) (hd : D.Dig W) :
    Calls Safg.prog 70 #[.pointer (some ⟨T, 10, none⟩), .int .u32 (off : Int), arrV W] w fun e w' => e = .returned (.bool (hasF F off 32)) ∧ MPost B T w w' col (putIf F off 32 W) := by
  go_enter Safg.func70, Safg.ntmps70
  go_upto_region 1 with (refine wpList_box_arr rfl 28 _ rfl W rfl ?_; intro w1 g1 hg1 o1 b1)
  have rd := o1.rd hd
  rw [hW] at rd
  have hsep := h.sep hg1
  go_wp2_with (go_at_call 96; refine (mPut w1 B T col fv fvs F (h.below b1) hF off 32 32 W (some ⟨g1, 0, none⟩) ho (by omega) (Nat.le_refl _) (by decide) rd (fun a e i v hv => by obtain rfl := Option.some.inj e; exact hsep i v hv)).mono ?_; rintro e w2 ⟨rfl, hp⟩)
  go_ret
  exact ⟨rfl, hp.after h.lt b1⟩

theorem Safg.hinfo5 : ∃ i, Safg.prog.info? 5 = some i ∧ i.zero = some (.int .u8 0) ∧ i.size = 1 ∧ i.bytes = 1 := by
  obtain ⟨i, hi, hi'⟩ := Option.map_eq_some_iff.1 Safg.info5
  simp only [Prod.mk.injEq] at hi'
  exact ⟨i, hi, hi'.1, hi'.2.1, hi'.2.2⟩

set_option maxHeartbeats 1000000 in
theorem mStore8 (w : World) (B T : Nat) (col : Nat → Nat) (fv : Value) (fvs : List Value) (F : List (List Nat)) (h : Md B T w col fv fvs F) (hF : FOk F) (off b : Nat) (ho : off < 4294967296) (hb : b < 256) :
    Calls Safg.prog 71 #[.pointer (some ⟨T, 10, none⟩), .int .u32 (off : Int), .int .u8 (b : Int)] w fun e w' => e = .returned (.bool (hasF F off 1)) ∧ MPost B T w w' col (putIf F off 1 [b]) := by
  have o1 : Own (w.alloc (.cells #[Value.int .u8 (b : Int)] 5)) w.heap.size [b] := Own.alloc_cells w [b] 5
  have b1 : Below w.heap.size w (w.alloc (.cells #[Value.int .u8 (b : Int)] 5)) := (Below.refl _ _).alloc (Nat.le_refl _) _
  have rd : Rd _ _ 1 [b] := o1.rd (by intro d hd; simp at hd; omega)
  have hsep := h.sep (Nat.le_refl w.heap.size)
  have HC := mPut _ B T col fv fvs F (h.below b1) hF off 1 1 [b] (some ⟨w.heap.size, 0, none⟩) ho (by omega) (Nat.le_refl _) (by decide) rd (fun a e i v hv => by obtain rfl := Option.some.inj e; exact hsep i v hv)
  go_enter Safg.func71, Safg.ntmps71
  go_wp2_with (go_at_call 96; refine HC.mono ?_; rintro e w2 ⟨rfl, hp⟩)
  go_ret
  exact ⟨rfl, hp.after h.lt b1⟩

set_option maxHeartbeats 2000000 in
theorem mMove (w : World) (B T : Nat) (col : Nat → Nat) (fv : Value) (fvs : List Value) (F : List (List Nat)) (h : Md B T w col fv fvs F) (hF : FOk F) (dst src n : Nat) (hd : dst < 4294967296) (hs : src < 4294967296) (hn : n < 4294967296) :
    Calls Safg.prog 72 #[.pointer (some ⟨T, 10, none⟩), .int .u32 (dst : Int), .int .u32 (src : Int), .int .u32 (n : Int)] w fun e w' => e = .returned (.bool (hasF F dst n && hasF F src n)) ∧ MPost B T w w' col (moveF F dst src n) := by
  obtain ⟨q, HQ⟩ : ∃ q, Hid (hasF F dst n = q) := ⟨_, rfl⟩
  obtain ⟨r, HR⟩ : ∃ r, Hid (hasF F src n = r) := ⟨_, rfl⟩
  have H1 := mHas w B T col fv fvs F h hF dst n hd hn
  rw [HQ.out] at H1
  rw [HQ.out, HR.out]
  cases q with
  | false =>
    have hm : moveF F dst src n = F := by unfold moveF; rw [if_neg (by rw [HQ.out]; simp)]
    rw [hm]
    go_enter Safg.func72, Safg.ntmps72
    go_wp2_with (go_at_call 97; refine H1.mono ?_; rintro e w1 ⟨rfl, s1⟩)
    go_ret
    exact ⟨rfl, h.stay s1⟩
  | true =>
    cases r with
    | false =>
      have hm : moveF F dst src n = F := by unfold moveF; rw [if_neg (by rw [HR.out]; simp)]
      rw [hm]
      go_enter Safg.func72, Safg.ntmps72
      go_wp2_with fail
      refine H1.mono ?_
      rintro e w1 ⟨rfl, s1⟩
      have H2 := mHas w1 B T col fv fvs F (h.same s1) hF src n hs hn
      rw [HR.out] at H2
      go_wp2_with (go_at_call 97; refine H2.mono ?_; rintro e w2 ⟨rfl, s2⟩)
      go_ret
      exact ⟨rfl, h.stay (s1.trans s2)⟩
    | true =>
      have hm : moveF F dst src n = putIf F dst n (readF F src n) := by unfold moveF putIf; rw [if_pos ⟨HQ.out, HR.out⟩, if_pos HQ.out, readF_yes HR.out]
      rw [hm]
      have hlen := readF_len HR.out
      have tl : n ≤ 717280 := by
        obtain ⟨G, t, rfl, hle⟩ := hasF_true HR.out
        have := hF.low t (by simp)
        omega
      have dg : D.Dig (readF F src n) := by rw [readF_yes HR.out]; exact subL_dig (topF_dig hF)
      go_enter Safg.func72, Safg.ntmps72
      go_wp2_with fail
      refine H1.mono ?_
      rintro e w1 ⟨rfl, s1⟩
      have H2 := mHas w1 B T col fv fvs F (h.same s1) hF src n hs hn
      rw [HR.out] at H2
      go_wp2_with fail
      refine H2.mono ?_
      rintro e w2 ⟨rfl, s2⟩
      have h2 := h.same (s1.trans s2)
      have H3 := mRead w2 B T col fv fvs F h2 hF src n hs hn
      go_wp2_with fail
      refine H3.mono ?_
      rintro e w3 ⟨ra, rfl, hnil, hown, b3⟩
      have rd : Rd w3 ra n (readF F src n) := by
        by_cases h0 : readF F src n = []
        · rw [h0] at hlen ⊢
          have : n = 0 := by rw [← hlen]; rfl
          subst this
          exact Rd.nil _ _
        · obtain ⟨g, hg, rfl, own⟩ := hown h0
          have := own.rd dg
          rwa [hlen] at this
      have hsep : ∀ (a : Addr), ra = some a → ∀ (i : Nat) (v : Value), fvs[i]? = some v → v.ownBlock ≠ some a.block := by
        intro a e
        by_cases h0 : readF F src n = []
        · rw [hnil h0] at e; cases e
        · obtain ⟨g, hg, rfl, own⟩ := hown h0
          obtain rfl := Option.some.inj e
          exact h2.sep hg
      have H4 := mPut w3 B T col fv fvs F (h2.below b3) hF dst n n (readF F src n) ra hd hn (Nat.le_refl _) (by unfold maxLen; omega) rd hsep
      rw [HQ.out] at H4
      rw [hlen]
      have BB : Hid (Below w.heap.size w w3) := by
        show Below w.heap.size w w3
        refine ((s1.trans s2).below _).trans (b3.mono ?_)
        rw [s2.heap, s1.heap]; exact Nat.le_refl _
      clear hnil hown rd hsep
      go_wp2_with (go_at_call 96; refine H4.mono ?_; rintro e w4 ⟨rfl, hp⟩)
      go_ret
      exact ⟨rfl, hp.after h.lt BB.out⟩

theorem writeL_get {src : List Nat} {frm n j : Nat} (hj : j < n) : (writeL src frm n).getD j 0 = src.getD (frm + j) 0 := by
  simp only [writeL, List.getD_eq_getElem?_getD, List.getElem?_append, List.getElem?_take, List.getElem?_drop, List.getElem?_replicate, List.length_take, List.length_drop]
  by_cases h : j < min n (src.length - frm)
  · rw [if_pos h, if_pos hj]
  · rw [if_neg h, List.getElem?_eq_none (show src.length ≤ frm + j by omega)]
    split <;> rfl

set_option maxRecDepth 100000 in
set_option maxHeartbeats 2000000 in
theorem mWrite (w : World) (B T : Nat) (col : Nat → Nat) (fv : Value) (fvs : List Value) (F : List (List Nat)) (h : Md B T w col fv fvs F) (hF : FOk F) (off n frm gs : Nat) (S : List Nat) (ho : off < 4294967296) (hn : n < 4294967296) (hfr : frm < 4294967296) (hS : S.length = 40) (hd : D.Dig S) (os : Own w gs S) :
    Calls Safg.prog 74 #[.pointer (some ⟨T, 10, none⟩), .int .u32 (off : Int), .slice (some ⟨gs, 0, none⟩) 40 40, .int .u64 (frm : Int), .int .u32 (n : Int)] w fun e w' => e = .returned (.bool (hasF F off n)) ∧ MPost B T w w' col (putIf F off n (writeL S frm n)) := by
  obtain ⟨q, HQ⟩ : ∃ q, Hid (hasF F off n = q) := ⟨_, rfl⟩
  have H1 := mHas w B T col fv fvs F h hF off n ho hn
  rw [HQ.out] at H1
  rw [HQ.out]
  cases q with
  | false =>
    rw [putIf_no HQ.out]
    go_enter Safg.func74, Safg.ntmps74
    go_wp2_with (go_at_call 97; refine H1.mono ?_; rintro e w1 ⟨rfl, s1⟩)
    go_ret
    exact ⟨rfl, h.stay s1⟩
  | true =>
    have tl : n ≤ 717280 := by
      obtain ⟨G, t, rfl, hle⟩ := hasF_true HQ.out
      have := hF.low t (by simp)
      omega
    go_enter Safg.func74, Safg.ntmps74
    go_upto_region 5 with (first | (go_at_call 97; refine H1.mono ?_; rintro e w1 ⟨rfl, s1⟩) | (refine wpList_make_bytes _ rfl _ _ 30 rfl Safg.underlying30 .u32 .u32 _ _ n rfl rfl rfl rfl (by omega) ?_; intro w2 g hg o2 b2))
    clear H1
    have hsz : w1.heap.size = w.heap.size := by rw [s1.heap]
    have os1 := s1.own os
    have os2 := os1.below b2 os1.lt
    have hne : gs ≠ g := by have := os1.lt; omega
    have BB : Hid (Below w.heap.size w w2) := (s1.below _).trans (b2.mono (by omega))
    go_loopw [22] (fun i wr => ∃ (k : Nat) (L : List Nat), k ≤ n ∧ i = .int .i64 k ∧ Own wr g L ∧ Only g w2 wr ∧ L.length = n ∧ (∀ j, j < n → L.getD j 0 = if j < k then S.getD (frm + j) 0 else 0)) (fun i _ => n - (intOf i).toNat)
    case atStart => exact ⟨0, _, Nat.zero_le _, rfl, o2, Only.refl _ _, by simp, fun j hj => by rw [D.getD_replicate]; rfl⟩
    case round =>
      obtain ⟨k, L, hk, rfl, ownr, onlyr, hL, hj⟩ := hrel
      have HJ : Hid (∀ j, j < n → L.getD j 0 = if j < k then S.getD (frm + j) 0 else 0) := hj
      clear hj
      by_cases hlt : k < n
      · by_cases h40 : frm + k < 40
        · have t1 : decide ((frm : Int) < 40) = true := decide_eq_true (by omega)
          have t2 : decide ((k : Int) < 40 - (frm : Int)) = true := decide_eq_true (by omega)
          have hc := ownr.cell k (by omega)
          have hfr' := ownr.free k
          have cs := (onlyr.cell (p := ⟨gs, frm + k, none⟩) hne).trans (os2.cell (frm + k) (by omega))
          have hset := ownr.set (k := k) (by omega) (S.getD (frm + k) 0)
          have hdg := hd.getD (frm + k)
          generalize hx : S.getD (frm + k) 0 = x at *
          have HX : Hid (S.getD (frm + k) 0 = x) := hx
          clear hx
          go_wp2
          go_roundw
          case rel =>
            refine ⟨k + 1, _, by omega, by go_num, hset, onlyr.setCell _ _, by simpa using hL, fun j hj => ?_⟩
            rw [D.getD_set (by omega)]
            by_cases e : j = k
            · rw [if_pos e, if_pos (by omega), e, HX.out]
            · rw [if_neg e, HJ.out j hj]
              by_cases e2 : j < k
              · rw [if_pos e2, if_pos (by omega)]
              · rw [if_neg e2, if_neg (by omega)]
          case measure => simp [intOf]; omega
        · have HZ : Hid (S.getD (frm + k) 0 = 0) := by
            show _ = _
            rw [List.getD_eq_getElem?_getD, List.getElem?_eq_none (by omega)]; rfl
          have hrel2 : ∀ j, j < n → L.getD j 0 = if j < k + 1 then S.getD (frm + j) 0 else 0 := by
            intro j hj
            rw [HJ.out j hj]
            by_cases e : j = k
            · rw [if_neg (by omega), if_pos (by omega), e, HZ.out]
            · by_cases e2 : j < k
              · rw [if_pos e2, if_pos (by omega)]
              · rw [if_neg e2, if_neg (by omega)]
          have HR2 : Hid (∀ j, j < n → L.getD j 0 = if j < k + 1 then S.getD (frm + j) 0 else 0) := hrel2
          clear hrel2
          by_cases hf40 : frm < 40
          · have t1 : decide ((frm : Int) < 40) = true := decide_eq_true (by omega)
            have t2 : decide ((k : Int) < 40 - (frm : Int)) = false := decide_eq_false (by omega)
            go_wp2
            go_roundw
            case rel => exact ⟨k + 1, L, by omega, by go_num, ownr, onlyr, hL, HR2.out⟩
            case measure => simp [intOf]; omega
          · have t1 : decide ((frm : Int) < 40) = false := decide_eq_false (by omega)
            go_wp2
            go_roundw
            case rel => exact ⟨k + 1, L, by omega, by go_num, ownr, onlyr, hL, HR2.out⟩
            case measure => simp [intOf]; omega
      · have hk' : k = n := by omega
        subst hk'
        have hLe : L = writeL S frm k := ext_getD (by rw [writeL_length, hL]) (fun j hj => by rw [HJ.out j (by omega), if_pos (by omega), writeL_get (by omega)])
        subst hLe
        have hb3 : Below w.heap.size w wr := BB.out.trans (onlyr.below (by omega))
        have rd := ownr.rd (writeL_dig hd _ _)
        rw [writeL_length] at rd
        have hsep := h.sep (show w.heap.size ≤ g by omega)
        have H4 := mPut wr B T col fv fvs F (h.below hb3) hF off k k (writeL S frm k) (some ⟨g, 0, none⟩) ho hn (Nat.le_refl _) (by unfold maxLen; omega) rd (fun a e i v hv => by obtain rfl := Option.some.inj e; exact hsep i v hv)
        rw [HQ.out] at H4
        go_wp2_with (go_at_call 96; refine H4.mono ?_; rintro e w4 ⟨rfl, hp⟩)
        go_ret
        exact ⟨rfl, hp.after h.lt hb3⟩
end Go.Proofs.Ygcsaf
