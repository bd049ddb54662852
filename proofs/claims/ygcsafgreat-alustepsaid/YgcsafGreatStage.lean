/-
  'law.Stage' (15) of one code.
-/
import Derived.Test.YgcsafGreatStageA
namespace Go.Proofs.YgcsafGreat
open Go.RowKit
set_option linter.unusedVariables false
set_option linter.unusedSimpArgs false

/-- The cells of an account of a world. -/
def stL (A : List Nat) (n : Nat) (b : List Nat) (code : Value) : List Value := cellsL A ++ (.int .u64 (n : Int) :: (cellsL b ++ [code, .slice none 0 0]))
theorem stL_length {A b : List Nat} {n : Nat} {code : Value} (hA : A.length = 20) (hb : b.length = 32) : (stL A n b code).length = 55 := by simp [stL, cellsL_length, hA, hb]
theorem stL_one {A b : List Nat} {n : Nat} {code : Value} (h : code.oneCell' = true) : ∀ v ∈ stL A n b code, v.oneCell' = true := by
  intro v hv
  simp only [stL, List.mem_append, List.mem_cons, List.not_mem_nil, or_false] at hv
  rcases hv with h1 | rfl | h1 | rfl | rfl
  · exact cellsL_one _ v h1
  · rfl
  · exact cellsL_one _ v h1
  · exact h
  · rfl
theorem stL_addr {A b : List Nat} {n : Nat} {code : Value} {j : Nat} {v : Value} (h : (cellsL A)[j]? = some v) : (stL A n b code)[j]? = some v := by
  rw [stL, List.getElem?_append_left (List.getElem?_eq_some_iff.1 h).1]; exact h
theorem stL_rest {A b : List Nat} {n : Nat} {code : Value} (hA : A.length = 20) (j : Nat) : (stL A n b code)[20 + j]? = (Value.int .u64 (n : Int) :: (cellsL b ++ [code, .slice none 0 0]))[j]? := by
  rw [stL, List.getElem?_append_right (by rw [cellsL_length]; omega), cellsL_length, hA, Nat.add_sub_cancel_left]
theorem stL_bal {A b : List Nat} {n : Nat} {code : Value} (hA : A.length = 20) {j : Nat} {v : Value} (h : (cellsL b)[j]? = some v) : (stL A n b code)[21 + j]? = some v := by
  rw [show 21 + j = 20 + (j + 1) by omega, stL_rest hA]
  show (cellsL b ++ _)[j]? = _
  rw [List.getElem?_append_left (List.getElem?_eq_some_iff.1 h).1]; exact h
theorem stL_end {A b : List Nat} {n : Nat} {code : Value} (hA : A.length = 20) (hb : b.length = 32) (j : Nat) : (stL A n b code)[53 + j]? = ([code, .slice none 0 0] : List Value)[j]? := by
  rw [show 53 + j = 20 + ((32 + j) + 1) by omega, stL_rest hA]
  show (cellsL b ++ _)[32 + j]? = _
  rw [List.getElem?_append_right (by rw [cellsL_length]; omega), cellsL_length, hb, Nat.add_sub_cancel_left]
def bal15 : List Nat := List.replicate 15 0 ++ (1 :: List.replicate 16 0)
theorem bal15_dig : D.Dig bal15 := by
  intro x hx
  simp only [bal15, List.mem_append, List.mem_replicate, List.mem_cons] at hx
  rcases hx with ⟨_, rfl⟩ | rfl | ⟨_, rfl⟩ <;> omega
set_option maxRecDepth 100000 in
theorem built51 : Safg.prog.built 51 [(15, .int .u8 1)] = some (cellsL bal15).toArray := by kernel_rfl
set_option maxRecDepth 100000 in
theorem built110a : Safg.prog.built 110 [(0, arrV (adr 1)), (1, .int .u64 1)] = some (stL (adr 1) 1 (List.replicate 32 0) (.slice none 0 0)).toArray := by kernel_rfl
set_option maxRecDepth 100000 in
theorem built110b : Safg.prog.built 110 [(0, arrV (adr 240)), (2, arrV bal15)] = some (stL (adr 240) 0 bal15 (.slice none 0 0)).toArray := by kernel_rfl
set_option maxRecDepth 100000 in
theorem Safg.zero110 : (Safg.prog.info? 110).map (·.zero) = some (some (.agg (stL (List.replicate 20 0) 0 (List.replicate 32 0) (.slice none 0 0)).toArray)) := by kernel_rfl
set_option maxRecDepth 100000 in
theorem Safg.info110 : (Safg.prog.info? 110).map (fun i => (i.zero.map (·.cells.size), i.size, i.bytes)) = some (some 55, 55, 112) := by kernel_rfl
set_option maxRecDepth 100000 in
theorem Safg.size110 : (Safg.prog.info? 110).map (·.size) = some 55 := by kernel_rfl
set_option maxRecDepth 100000 in
theorem Safg.zcells110 : ((Safg.prog.info? 110).bind (·.zero)).map (·.cells.size) = some 55 := by kernel_rfl
theorem info110' : ∃ i z, Safg.prog.info? 110 = some i ∧ i.zero = some z ∧ i.size = 55 ∧ i.bytes = 112 ∧ z.cells.size = 55 := by
  obtain ⟨i, hi, h⟩ := Option.map_eq_some_iff.1 Safg.info110
  simp only [Prod.mk.injEq] at h
  obtain ⟨h1, h2, h3⟩ := h
  obtain ⟨z, hz, h4⟩ := Option.map_eq_some_iff.1 h1
  exact ⟨i, z, hi, hz, h2, h3, h4⟩
theorem Safg.under47 : Safg.prog.underlying 47 = some (.slice 110) := by kernel_rfl
theorem Stg.of_row {w : World} {g cap : Nat} {A0 A1 L : List Nat} {a : Option Addr} {k c : Nat} (h : RowV w g cap (stL A0 1 (List.replicate 32 0) (.slice a k c) ++ stL A1 0 L (.slice none 0 0))) (h0 : A0.length = 20) (h1 : A1.length = 20) (hL : L.length = 32) (d0 : D.Dig A0) (d1 : D.Dig A1) : Stg w g A0 A1 L a k c := by
  have l0 := stL_length (n := 1) (code := .slice a k c) h0 (b := List.replicate 32 0) (by simp)
  have f : ∀ j v, (stL A0 1 (List.replicate 32 0) (.slice a k c))[j]? = some v → w.cell? ⟨g, j, none⟩ = some v := fun j v hv => h.cell j v (by rw [List.getElem?_append_left (List.getElem?_eq_some_iff.1 hv).1]; exact hv)
  have s : ∀ j v, (stL A1 0 L (.slice none 0 0))[j]? = some v → w.cell? ⟨g, 55 + j, none⟩ = some v := fun j v hv => h.cell (55 + j) v (by rw [List.getElem?_append_right (by omega), l0, Nat.add_sub_cancel_left]; exact hv)
  have byte : ∀ (M : List Nat) (i : Nat), i < M.length → (cellsL M)[i]? = some (.int .u8 ((M.getD i 0 : Nat) : Int)) := fun M i hi => by
    unfold cellsL; rw [List.getElem?_map, List.getElem?_eq_getElem hi, List.getD_eq_getElem?_getD, List.getElem?_eq_getElem hi]; rfl
  refine ⟨h.lt, ⟨h0, fun i hi => ⟨g, 0, rfl, h.lt, by rw [Nat.zero_add]; exact f _ _ (stL_addr (byte A0 i (by omega)))⟩, d0⟩, f 20 _ (stL_rest h0 0), fun j v hv => f (21 + j) v (stL_bal h0 hv), f 53 _ (stL_end h0 (by simp) 0), f 54 _ (stL_end h0 (by simp) 1), ⟨h1, fun i hi => ⟨g, 55, rfl, h.lt, s _ _ (stL_addr (byte A1 i (by omega)))⟩, d1⟩, s 20 _ (stL_rest h1 0), fun j v hv => ?_, s 53 _ (stL_end h1 hL 0), s 54 _ (stL_end h1 hL 1)⟩
  have := s (21 + j) v (stL_bal h1 hv)
  rwa [← Nat.add_assoc] at this

theorem stL_set (v : Value) : (stL (adr 1) 1 (List.replicate 32 0) (.slice none 0 0)).set 53 v = stL (adr 1) 1 (List.replicate 32 0) v := rfl
/-- The stage of one code. -/
def StagePost (w : World) (C : List Nat) (e : Ending) (w' : World) : Prop :=
  ∃ gw cw g, e = .returned (.slice (some ⟨gw, 0, none⟩) 2 cw) ∧ w.heap.size ≤ gw ∧ Stg w' gw (adr 1) (adr 240) bal15 (some ⟨g, 0, none⟩) C.length C.length ∧ Own w' g C ∧ Below w.heap.size w w'
set_option maxRecDepth 100000 in
set_option maxHeartbeats 4000000 in
theorem stage_one (w : World) (gs cs : Nat) (ac : Addr) (n cc : Nat) (C : List Nat) (hs : w.cell? ⟨gs, 0, none⟩ = some (.slice (some ac) n cc)) (hC : Rd w (some ac) n C) (hn : 0 < n) (hm : n ≤ 256) :
    Calls Safg.prog 15 #[.slice (some ⟨gs, 0, none⟩) 1 cs] w (StagePost w C) := by
  obtain ⟨fs, hfs⟩ : ∃ fs, Safg.prog.underlying 110 = some (.struct fs) := ⟨_, rfl⟩
  obtain ⟨ii, zz, hii, hzz, hsz, hby, hzs⟩ := info110'
  have hl := hC.length
  have q1 : decide ((n : Int) ≤ 256) = true := decide_eq_true (by omega)
  go_enter Safg.func15, Safg.ntmps15
  go_upto_region 3 with fail
  go_loopw [3, 9] (fun v i wr => (i = .int .i64 0 ∧ v = .slice none 0 0 ∧ wr = w) ∨ ∃ g cap gc, i = .int .i64 1 ∧ v = .slice (some ⟨g, 0, none⟩) 1 cap ∧ w.heap.size ≤ g ∧ RowV wr g (cap * 55) (stL (adr 1) 1 (List.replicate 32 0) (.slice (some ⟨gc, 0, none⟩) n n)) ∧ 1 ≤ cap ∧ cap ≤ maxLen ∧ Own wr gc C ∧ gc ≠ g ∧ Below w.heap.size w wr) (fun _ i _ => 1 - (intOf i).toNat)
  case atStart => exact .inl ⟨rfl, rfl, rfl⟩
  case round =>
    rcases hrel with ⟨rfl, rfl, rfl⟩ | ⟨g, cap, gc, rfl, rfl, hg, row, h1, h2, own, hne, bb⟩
    · go_upto_region 8 with (first | (go_at_call 46; refine (addrNo_any wr 1 (by omega)).mono ?_; rintro e w1 ⟨rfl, b1⟩) | (refine wpList_build_at rfl 110 _ rfl [(0, arrV (adr 1)), (1, .int .u64 1)] rfl _ built110a ?_) | (refine wpList_alloc_agg rfl 110 rfl _ Safg.zero110 ?_; intro w2 g6 hg6 k6 b6) | (refine wpList_store_agg rfl 110 (.tmp 6) (.tmp 20) rfl g6 rfl _ (stL (adr 1) 1 (List.replicate 32 0) (.slice none 0 0)) rfl k6 rfl Safg.size110 (stL_one rfl) ?_; intro w3 k3 n3))
      have B3 : Below wr.heap.size wr w3 := (b1.trans (b6.mono b1.size)).trans (n3.below (Nat.le_trans b1.size hg6))
      have g6w : wr.heap.size ≤ g6 := Nat.le_trans b1.size hg6
      have HC := copyBytes_any w3 ac n cc C (hC.turn' (Turn.of_below B3 (Nat.le_refl _) []) (by simp)) hn (by omega)
      clear b1 hg6 k6 b6 n3
      go_upto_region 9 with (go_at_call 11; refine HC.mono ?_; rintro e w4 ⟨gc, rfl, hgc, oc, b4⟩; have k4 := k3.below b4 k3.lt; have c4 := k4.get (j := 53) (v := .slice none 0 0) rfl; have f4 := k4.free 53; have l4 := k3.lt)
      have k5 : Blk (w4.setCell ⟨g6, 53, none⟩ (.slice (some ⟨gc, 0, none⟩) n n)) g6 (stL (adr 1) 1 (List.replicate 32 0) (.slice (some ⟨gc, 0, none⟩) n n)) := by
        have := k4.set (k := 53) (by rw [stL_length rfl rfl]; omega) (.slice (some ⟨gc, 0, none⟩) n n)
        rwa [stL_set] at this
      have o5 : Only g6 w4 (w4.setCell ⟨g6, 53, none⟩ (.slice (some ⟨gc, 0, none⟩) n n)) := (Only.refl _ _).setCell _ _
      have oc5 := o5.own oc (by omega)
      have B5 : Below wr.heap.size wr (w4.setCell ⟨g6, 53, none⟩ (.slice (some ⟨gc, 0, none⟩) n n)) := (B3.trans (b4.mono B3.size)).trans (o5.below g6w)
      have hgc' : wr.heap.size ≤ gc := Nat.le_trans B3.size hgc
      clear c4 f4 k4 oc b4 k3 B3
      generalize w4.setCell ⟨g6, 53, none⟩ (.slice (some ⟨gc, 0, none⟩) n n) = w5 at *
      go_wp2_with (first | (refine wpList_load_agg rfl 110 (.tmp 6) rfl g6 rfl _ k5 fs hfs (by rw [stL_length rfl rfl]; exact Safg.size110) ?_) | (refine wpList_slice1 rfl 47 110 (.tmp 28) rfl _ rfl Safg.under47 (by rw [stL_length rfl rfl]; exact Safg.size110) (by rw [stL_length rfl rfl]; exact Safg.zcells110) (by rw [stL_length rfl rfl]; omega) (by rw [stL_length rfl rfl]; omega) ?_; intro w6 g29 hg29 k29 b6; have oc6 := oc5.below b6 oc5.lt) | (refine wpList_append_vecS rfl (.tmp 27) (.tmp 29) 47 rfl w6.heap.size 110 ii zz 55 112 Safg.under47 hii hzz hsz hby hzs (by omega) (.slice none 0 0) 0 [] rfl (.inl ⟨rfl, rfl, rfl⟩) ⟨g29, 0, none⟩ 1 1 (stL (adr 1) 1 (List.replicate 32 0) (.slice (some ⟨gc, 0, none⟩) n n)) rfl (by rw [stL_length rfl rfl]) (fun j u hu => by rw [Addr.add_mid]; exact k29.cell j u hu) (stL_one rfl) (by omega) (by unfold maxLen; omega) (by omega) (Nat.le_refl _) ?_; intro g' cap' w7 hB7 r7 hc7 hm7 t7 hor7))
      go_roundw
      case rel =>
        refine .inr ⟨g', cap', gc, by go_num, rfl, ?_, r7, by omega, hm7, oc6.turn t7 (by simp [Value.ownBlock]), ?_, ?_⟩
        · have := B5.size; have := b6.size; omega
        · have := oc6.lt; omega
        · exact (B5.trans (b6.mono B5.size)).trans (t7.below (Nat.le_trans B5.size b6.size) (by intro q hq; simp [Value.ownBlock] at hq))
      case measure => simp [intOf]
    · have l1 : (stL (adr 1) 1 (List.replicate 32 0) (.slice (some ⟨gc, 0, none⟩) n n)).length = 55 := stL_length rfl rfl
      go_wp2_with (first | (go_at_call 38; refine (sender_any wr).mono ?_; rintro e w1 ⟨rfl, b1⟩) | (refine wpList_build_at rfl 51 _ rfl [(15, .int .u8 1)] rfl _ built51 ?_) | (refine wpList_build_at rfl 110 _ rfl [(0, arrV (adr 240)), (2, arrV bal15)] rfl _ built110b ?_) | (refine wpList_slice1 rfl 47 110 (.tmp 35) rfl (stL (adr 240) 0 bal15 (.slice none 0 0)) rfl Safg.under47 (by rw [stL_length rfl rfl]; exact Safg.size110) (by rw [stL_length rfl rfl]; exact Safg.zcells110) (by rw [stL_length rfl rfl]; omega) (by rw [stL_length rfl rfl]; omega) ?_; intro w6 g29 hg29 k29 b6) | (refine wpList_append_vecS rfl (.tmp 32) (.tmp 36) 47 rfl 0 110 ii zz 55 112 Safg.under47 hii hzz hsz hby hzs (by omega) (.slice (some ⟨g, 0, none⟩) 1 cap) 1 _ rfl (.inr ⟨g, cap, rfl, Nat.zero_le _, row.turn (Turn.of_below (b1.trans (b6.mono b1.size)) (Nat.le_refl _) []) (by simp), by rw [l1], h1, h2⟩) ⟨g29, 0, none⟩ 1 1 (stL (adr 240) 0 bal15 (.slice none 0 0)) rfl (by rw [stL_length rfl rfl]) (fun j u hu => by rw [Addr.add_mid]; exact k29.cell j u hu) (stL_one rfl) (by omega) (by unfold maxLen; omega) (by omega) (Nat.zero_le _) ?_; intro g' cap' w7 hB7 r7 hc7 hm7 t7 hor7))
      go_ret
      have B6 := (bb.trans (b1.mono bb.size)).trans (b6.mono (Nat.le_trans bb.size b1.size))
      have bs := b1.size; have bs6 := b6.size; have bbs := bb.size
      have ol := own.lt
      refine ⟨g', cap', gc, rfl, ?_, ?_, ?_, ?_⟩
      · rcases hor7 with h | h
        · have : g = g' := by simpa [Value.ownBlock] using h
          omega
        · omega
      · rw [hl]
        exact Stg.of_row r7 rfl rfl rfl (adr_dig (by omega)) (adr_dig (by omega))
      · exact ((own.below b1 own.lt).below b6 (by omega)).turn t7 (by simp [Value.ownBlock]; exact hne)
      · exact B6.trans (t7.below B6.size (by intro q hq; have : g = q := (by simpa [Value.ownBlock, eq_comm] using hq); omega))
end Go.Proofs.YgcsafGreat
