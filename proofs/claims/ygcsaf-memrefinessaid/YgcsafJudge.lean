/-
  'judge' (19).
-/
import Derived.Test.YgcsafWd
namespace Go.Proofs.Ygcsaf
open Go.RowKit
set_option linter.unusedVariables false
set_option linter.unusedSimpArgs false
attribute [local go_sem ↓] Go.wp_at_zero Go.wp_at_succ

theorem opC_0 (k a b n f : Nat) : (opC k a b n f)[0]? = some (.int .u8 (k : Int)) := rfl
theorem RdNew.cases {m : Nat} {w : World} {ra rb : Option Addr} {r : List Nat} (ha : RdNew m w ra r) {m' : Nat} {w' : World} (hb : RdNew m' w' rb r) : (ra = none ∧ rb = none) ∨ ∃ x y, ra = some x ∧ rb = some y := by
  by_cases h0 : r = []
  · exact .inl ⟨ha.nil h0, hb.nil h0⟩
  · right
    have hp : 0 < r.length := List.length_pos_iff.2 h0
    obtain ⟨b1, o1, e1, _⟩ := ha.rd.cell 0 hp
    obtain ⟨b2, o2, e2, _⟩ := hb.rd.cell 0 hp
    exact ⟨_, _, e1, e2⟩

theorem Safg.info38 : (Safg.prog.info? 38).map (fun i => (i.zero, i.size, i.bytes)) = some (some (.int .u32 0), 1, 4) := by kernel_rfl
theorem Safg.hinfo38 : ∃ i, Safg.prog.info? 38 = some i ∧ i.zero = some (.int .u32 0) ∧ i.size = 1 ∧ i.bytes = 4 := by
  obtain ⟨i, hi, hi'⟩ := Option.map_eq_some_iff.1 Safg.info38
  simp only [Prod.mk.injEq] at hi'
  exact ⟨i, hi, hi'.1, hi'.2.1, hi'.2.2⟩

/-- All that the walk wants at 'append(words, 0)'. -/
structure PushReady (B T : Nat) (w : World) (wv : Value) (words : List Nat) (L : Nat) (i : TypeInfo) : Prop where
  info : Safg.prog.info? 38 = some i
  zero : i.zero = some (.int .u32 0)
  size : i.size = 1
  bytes : i.bytes = 4
  vec : Vec B (w.alloc (.cells #[Value.int .u32 0] 38)) wv (words.map u32V)
  len : (words.map u32V).length = L
  cells : ∀ j u, ([.int .u32 0] : List Value)[j]? = some u → (w.alloc (.cells #[Value.int .u32 0] 38)).cell? ((⟨w.heap.size, 0, none⟩ : Addr).add j) = some u
  one : ∀ u ∈ ([.int .u32 0] : List Value), u.oneCell' = true
  hB : B ≤ (w.alloc (.cells #[Value.int .u32 0] 38)).heap.size
  c11 : (w.alloc (.cells #[Value.int .u32 0] 38)).cell? ⟨T, 11, none⟩ = some wv
  f11 : (w.alloc (.cells #[Value.int .u32 0] 38)).frozen? ⟨T, 11, none⟩ = false
  lt : T < (w.alloc (.cells #[Value.int .u32 0] 38)).heap.size
  nT : T ∉ wv.ownBlock.toList
  fin : ∀ (g cap : Nat) (w3 w' : World), B ≤ g → RowV w3 g cap (words.map u32V ++ [.int .u32 0]) → cap ≤ maxLen → Turn wv.ownBlock.toList (w.alloc (.cells #[Value.int .u32 0] 38)) w3 → (wv.ownBlock = some g ∨ (w.alloc (.cells #[Value.int .u32 0] 38)).heap.size ≤ g) → Same (w3.setCell ⟨T, 11, none⟩ (.slice (some ⟨g, 0, none⟩) (L + 1) cap)) w' → WPost B T w w' wv (words ++ [0])

theorem Wd.pushReady {B T : Nat} {w : World} {wv : Value} {words : List Nat} (h : Wd B T w wv words) (hBw : B ≤ w.heap.size) : ∃ i, PushReady B T w wv words words.length i := by
  obtain ⟨i, hi, hz, hsz, hby⟩ := Safg.hinfo38
  have b1 : Below w.heap.size w (w.alloc (.cells #[Value.int .u32 0] 38)) := (Below.refl _ _).alloc (Nat.le_refl _) _
  have kb : Blk (w.alloc (.cells #[Value.int .u32 0] 38)) w.heap.size [.int .u32 0] := Blk.alloc w [.int .u32 0] 38
  have h1 := h.below b1
  refine ⟨i, hi, hz, hsz, hby, h1.vec, by simp, fun j u hu => by rw [Addr.add_mid]; exact kb.cell j u hu, ?_, Nat.le_trans hBw b1.size, h1.c11, h1.free 11, h1.lt, ?_, ?_⟩
  · intro u hu
    simp at hu
    subst hu
    rfl
  · intro hm
    simp at hm
    exact h.ne hm
  · intro g cap w3 w' a1 a2 a3 a4 a5 a6
    exact (h1.push a1 a2 a3 a4 a5 a6).after h.lt b1



set_option maxRecDepth 100000 in
set_option maxHeartbeats 4000000 in
theorem judge_0_none (w : World) (B T : Nat) (bv : Value) (buf base : List Nat) (F' : List (List Nat)) (har : ArF B T w bv buf base F') (wv : Value) (words : List Nat) (hw : Wd B T w wv words) (hrel : WRel words []) (hF : FOk []) (hBw : B ≤ w.heap.size)
    (a b n f : Nat) (ha : a < 4294967296) (hb : b < 4294967296) (hn : n < 4294967296) (ra rb : Option Addr) (m m' : Nat) (hra : RdNew m w ra (stepRead [] 0 a n)) (hrb : RdNew m' w rb (stepRead [] 0 a n)) :
    Calls Safg.prog 19 #[.pointer (some ⟨T, 0, none⟩), .agg (opC 0 a b n f).toArray, .agg (ansC (stepOk [] 0 a b n) (stepSize [] 0) (stepWord [] 0 a) (.slice ra (stepRead [] 0 a n).length (stepRead [] 0 a n).length)).toArray, .agg (ansC (stepOk [] 0 a b n) (stepSize [] 0) (stepWord [] 0 a) (.slice rb (stepRead [] 0 a n).length (stepRead [] 0 a n).length)).toArray] w fun e w' =>
      e = .returned (.bool true) ∧ ∃ words', WRel words' (stepF [] 0 a b n f) ∧ WPost B T w w' wv words' := by
  have hWl : (stepWord [] 0 a).length = 32 := stepWord_length
  have hWd : D.Dig (stepWord [] 0 a) := stepWord_dig hF
  have hnn := hra.cases hrb
  have RA := hra.rd
  have RB := hrb.rd
  have HRA : Hid (RdNew m w ra (stepRead [] 0 a n)) := hra
  clear hra hrb
  obtain ⟨ok, HOK⟩ : ∃ ok, Hid (stepOk [] 0 a b n = ok) := ⟨_, rfl⟩
  obtain ⟨sz, HSZ⟩ : ∃ sz, Hid (stepSize [] 0 = sz) := ⟨_, rfl⟩
  obtain ⟨W, HW⟩ : ∃ W, Hid (stepWord [] 0 a = W) := ⟨_, rfl⟩
  obtain ⟨r, HR⟩ : ∃ r, Hid (stepRead [] 0 a n = r) := ⟨_, rfl⟩
  obtain ⟨rl, HRL⟩ : ∃ rl, Hid (r.length = rl) := ⟨_, rfl⟩
  rw [HW.out] at hWl hWd
  rw [HR.out, HRL.out] at RA RB
  rw [HOK.out, HSZ.out, HW.out, HR.out, HRL.out]
  go_enter Safg.func19, Safg.ntmps19
  go_upto_region 1 with (first | (refine wpList_box_agg rfl 49 (.tmp 1) rfl (opC 0 a b n f) rfl ?_; intro w1 g5 hg5 k5 b1) | (refine wpList_box_agg rfl 52 (.tmp 2) rfl _ rfl ?_; intro w2 g6 hg6 k6 b2) | (refine wpList_box_agg rfl 52 (.tmp 3) rfl _ rfl ?_; intro w3 g7 hg7 k7 b3))
  have k6' := k6.below b3 k6.lt
  have k5' := (k5.below b2 k5.lt).below b3 (Nat.lt_of_lt_of_le k5.lt b2.size)
  have b03 : Below w.heap.size w w3 := (b1.trans (b2.mono b1.size)).trans (b3.mono (Nat.le_trans b1.size b2.size))
  have HS := same_true w3 ok sz W r ra rb rl hWl hWd (RA.below b03) (RB.below b03) hnn
  have hlT := hw.lt
  have hs01 := b1.size
  have hs02 := b2.size
  clear k5 k6 b1 b2 b3 RA RB hnn
  go_upto_region 3 with (first | (refine wpList_load_agg rfl 52 (.tmp 6) rfl g6 rfl _ k6' _ Safg.underlying52 (size52c hWl) ?_) | (refine wpList_load_agg rfl 52 (.tmp 7) rfl g7 rfl _ k7 _ Safg.underlying52 (size52c hWl) ?_) | (go_at_call 62; refine HS.mono ?_; rintro e w4 ⟨rfl, b4⟩; have b04 : Below w.heap.size w w4 := b03.trans (b4.mono b03.size); have HCK := aCheck w4 B T bv buf base F' (har.below b04)) | (go_at_call 61; refine HCK.mono ?_; rintro e w5 ⟨rfl, s5⟩))
  have b05 : Below w.heap.size w w5 := b04.trans (s5.below _)
  have j5 := s5.blk (k5'.below b4 k5'.lt)
  have j6 := s5.blk (k6'.below b4 k6'.lt)
  have hw5 := hw.below b05
  have hlT5 := hw5.lt
  have hsz5 := b05.size
  have c50 := j5.get (j := 0) (v := .int .u8 ((0 : Nat) : Int)) rfl
  have c60 := j6.get (ansC_0 _ _ _ _)
  have BB : Hid (Below w.heap.size w w5) := b05
  clear HS HCK b03 b04 b05 b4 s5 k5' k6' k7
  have hwn : words = [] := List.eq_nil_of_length_eq_zero hrel.len
  subst hwn
  obtain ⟨fa, fc, rfl, _, _⟩ := hw5.len_of
  have c11 := hw5.c11
  have HWD : Hid (Wd B T w5 (.slice fa 0 fc) []) := hw5
  have hnb6 : g6 ∉ (Value.slice fa 0 fc).ownBlock.toList := by
    intro hm
    simp only [Option.mem_toList] at hm
    have := (hw.vec.block_lt hm).1
    omega
  clear hw5 hw hrel
  obtain ⟨i, pr⟩ := HWD.out.pushReady (Nat.le_trans hBw hsz5)
  have hz1 : (Value.int .u32 0).cells.size = 1 := rfl
  have PR : Hid (PushReady B T w5 (Value.slice fa 0 fc) [] 0 i) := pr
  clear pr
  have j6a := j6.below ((Below.refl _ w5).alloc (Nat.le_refl _) (.cells #[Value.int .u32 0] 38)) j6.lt
  have HJ6 : Hid (Blk (w5.alloc (.cells #[Value.int .u32 0] 38)) g6 (ansC ok sz W (.slice ra rl rl)) ∧ g6 ∉ (Value.slice fa 0 fc).ownBlock.toList) := ⟨j6a, hnb6⟩
  clear j6a
  have hml : maxLen = 9223372036854775807 := rfl
  obtain rfl : ok = true := HOK.out.symm
  go_wp2_with (refine wpList_append_vec' rfl _ _ 45 rfl B 38 i _ 4 Safg.underlying45 PR.out.info PR.out.zero PR.out.size PR.out.bytes hz1 _ _ 0 PR.out.len rfl PR.out.vec ⟨w5.heap.size, 0, none⟩ 1 1 [.int .u32 0] rfl rfl PR.out.cells PR.out.one (by omega) (by omega) (by omega) PR.out.hB ?_; intro g cap' w6 a1 a2 a3 a4 a5; have c113 := (a4.cell (p := ⟨T, 11, none⟩) PR.out.lt PR.out.nT).trans PR.out.c11; have c606 := (HJ6.out.1.turn a4 HJ6.out.2).get (ansC_0 _ _ _ _); have fr3 := (a4.frozen (p := ⟨T, 11, none⟩) PR.out.lt PR.out.nT).trans PR.out.f11; have HA : Hid (∀ w', Same (w6.setCell ⟨T, 11, none⟩ (.slice (some ⟨g, 0, none⟩) (0 + 1) cap')) w' → WPost B T w5 w' (Value.slice fa 0 fc) ([] ++ [0])) := fun w' hs => PR.out.fin g cap' w6 w' a1 a2 a3 a4 a5 hs; clear a1 a2 a3 a4 a5)
  go_ret
  exact ⟨rfl, [0], WRel.nil.push (x := 0) (t := []) rfl, (HA.out _ (Same.refl _)).after hlT BB.out⟩


set_option maxRecDepth 100000 in
set_option maxHeartbeats 4000000 in
theorem judge_0_some (w : World) (B T : Nat) (bv : Value) (buf base : List Nat) (G : List (List Nat)) (t : List Nat) (F' : List (List Nat)) (har : ArF B T w bv buf base F') (wv : Value) (words : List Nat) (hw : Wd B T w wv words) (hrel : WRel words (G ++ [t])) (hF : FOk (G ++ [t])) (hBw : B ≤ w.heap.size)
    (a b n f : Nat) (ha : a < 4294967296) (hb : b < 4294967296) (hn : n < 4294967296) (ra rb : Option Addr) (m m' : Nat) (hra : RdNew m w ra (stepRead (G ++ [t]) 0 a n)) (hrb : RdNew m' w rb (stepRead (G ++ [t]) 0 a n)) :
    Calls Safg.prog 19 #[.pointer (some ⟨T, 0, none⟩), .agg (opC 0 a b n f).toArray, .agg (ansC (stepOk (G ++ [t]) 0 a b n) (stepSize (G ++ [t]) 0) (stepWord (G ++ [t]) 0 a) (.slice ra (stepRead (G ++ [t]) 0 a n).length (stepRead (G ++ [t]) 0 a n).length)).toArray, .agg (ansC (stepOk (G ++ [t]) 0 a b n) (stepSize (G ++ [t]) 0) (stepWord (G ++ [t]) 0 a) (.slice rb (stepRead (G ++ [t]) 0 a n).length (stepRead (G ++ [t]) 0 a n).length)).toArray] w fun e w' =>
      e = .returned (.bool true) ∧ ∃ words', WRel words' (stepF (G ++ [t]) 0 a b n f) ∧ WPost B T w w' wv words' := by
  have hWl : (stepWord (G ++ [t]) 0 a).length = 32 := stepWord_length
  have hWd : D.Dig (stepWord (G ++ [t]) 0 a) := stepWord_dig hF
  have hnn := hra.cases hrb
  have RA := hra.rd
  have RB := hrb.rd
  have HRA : Hid (RdNew m w ra (stepRead (G ++ [t]) 0 a n)) := hra
  clear hra hrb
  obtain ⟨ok, HOK⟩ : ∃ ok, Hid (stepOk (G ++ [t]) 0 a b n = ok) := ⟨_, rfl⟩
  obtain ⟨sz, HSZ⟩ : ∃ sz, Hid (stepSize (G ++ [t]) 0 = sz) := ⟨_, rfl⟩
  obtain ⟨W, HW⟩ : ∃ W, Hid (stepWord (G ++ [t]) 0 a = W) := ⟨_, rfl⟩
  obtain ⟨r, HR⟩ : ∃ r, Hid (stepRead (G ++ [t]) 0 a n = r) := ⟨_, rfl⟩
  obtain ⟨rl, HRL⟩ : ∃ rl, Hid (r.length = rl) := ⟨_, rfl⟩
  rw [HW.out] at hWl hWd
  rw [HR.out, HRL.out] at RA RB
  rw [HOK.out, HSZ.out, HW.out, HR.out, HRL.out]
  go_enter Safg.func19, Safg.ntmps19
  go_upto_region 1 with (first | (refine wpList_box_agg rfl 49 (.tmp 1) rfl (opC 0 a b n f) rfl ?_; intro w1 g5 hg5 k5 b1) | (refine wpList_box_agg rfl 52 (.tmp 2) rfl _ rfl ?_; intro w2 g6 hg6 k6 b2) | (refine wpList_box_agg rfl 52 (.tmp 3) rfl _ rfl ?_; intro w3 g7 hg7 k7 b3))
  have k6' := k6.below b3 k6.lt
  have k5' := (k5.below b2 k5.lt).below b3 (Nat.lt_of_lt_of_le k5.lt b2.size)
  have b03 : Below w.heap.size w w3 := (b1.trans (b2.mono b1.size)).trans (b3.mono (Nat.le_trans b1.size b2.size))
  have HS := same_true w3 ok sz W r ra rb rl hWl hWd (RA.below b03) (RB.below b03) hnn
  have hlT := hw.lt
  have hs01 := b1.size
  have hs02 := b2.size
  clear k5 k6 b1 b2 b3 RA RB hnn
  go_upto_region 3 with (first | (refine wpList_load_agg rfl 52 (.tmp 6) rfl g6 rfl _ k6' _ Safg.underlying52 (size52c hWl) ?_) | (refine wpList_load_agg rfl 52 (.tmp 7) rfl g7 rfl _ k7 _ Safg.underlying52 (size52c hWl) ?_) | (go_at_call 62; refine HS.mono ?_; rintro e w4 ⟨rfl, b4⟩; have b04 : Below w.heap.size w w4 := b03.trans (b4.mono b03.size); have HCK := aCheck w4 B T bv buf base F' (har.below b04)) | (go_at_call 61; refine HCK.mono ?_; rintro e w5 ⟨rfl, s5⟩))
  have b05 : Below w.heap.size w w5 := b04.trans (s5.below _)
  have j5 := s5.blk (k5'.below b4 k5'.lt)
  have j6 := s5.blk (k6'.below b4 k6'.lt)
  have hw5 := hw.below b05
  have hlT5 := hw5.lt
  have hsz5 := b05.size
  have c50 := j5.get (j := 0) (v := .int .u8 ((0 : Nat) : Int)) rfl
  have c60 := j6.get (ansC_0 _ _ _ _)
  have BB : Hid (Below w.heap.size w w5) := b05
  clear HS HCK b03 b04 b05 b4 s5 k5' k6' k7
  obtain ⟨ws, x, rfl, hrel2, hx⟩ := hrel.last
  have hlr := hrel2.len
  obtain ⟨gw, cap, rfl, cw, fw, hgT, hcap, hcm, hgl, hBg, _⟩ := hw5.top
  have c11 := hw5.c11
  have HWD : Hid (Wd B T w5 (.slice (some ⟨gw, 0, none⟩) (ws.length + 1) cap) (ws ++ [x])) := hw5
  have hgw0 := (hw.vec.block_lt (g := gw) rfl).1
  have hgw6 : gw ≠ g6 := by omega
  have hgw5 : gw ≠ g5 := by omega
  have hnb6 : g6 ∉ (Value.slice (some ⟨gw, 0, none⟩) (ws.length + 1) cap).ownBlock.toList := by simp [Value.ownBlock]; omega
  have HREL : Hid (WRel ws G ∧ 32 * x = t.length) := ⟨hrel2, hx⟩
  have tl := hF.low t (by simp)
  have few := hF.few
  have hk7 : ws.length ≤ 6 := by simp at few; omega
  unfold u32V at cw
  have HMM : Hid (G.length = ws.length) := hlr.symm
  have hx1 : x ≤ 22415 := by omega
  have hml : maxLen = 9223372036854775807 := rfl
  clear hw5 hw hrel hrel2 hlr few hx
  obtain ⟨i, pr⟩ := HWD.out.pushReady (Nat.le_trans hBw hsz5)
  have hz1 : (Value.int .u32 0).cells.size = 1 := rfl
  have PR : Hid (PushReady B T w5 (Value.slice (some ⟨gw, 0, none⟩) (ws.length + 1) cap) (ws ++ [x]) (ws ++ [x]).length i) := pr
  clear pr
  have j6a := j6.below ((Below.refl _ w5).alloc (Nat.le_refl _) (.cells #[Value.int .u32 0] 38)) j6.lt
  have HJ6 : Hid (Blk (w5.alloc (.cells #[Value.int .u32 0] 38)) g6 (ansC ok sz W (.slice ra rl rl)) ∧ g6 ∉ (Value.slice (some ⟨gw, 0, none⟩) (ws.length + 1) cap).ownBlock.toList) := ⟨j6a, hnb6⟩
  clear j6a
  have hL : (ws ++ [x]).length = ws.length + 1 := by simp
  have hFl : (G ++ [t]).length = ws.length + 1 := by have := HMM.out; simp; omega
  cases ok with
  | true =>
    have h7 : (G ++ [t]).length < 7 := of_decide_eq_true HOK.out
    have FR : Hid (WRel (ws ++ [x] ++ [0]) (stepF (G ++ [t]) 0 a b n f)) := by
      show WRel (ws ++ [x] ++ [0]) (enterF (G ++ [t]))
      unfold enterF
      rw [if_pos h7]
      exact (HREL.out.1.push HREL.out.2).push (x := 0) (t := []) rfl
    have h8 : ws.length + 1 < 7 := by omega
    have t8 : decide ((ws.length : Int) + 1 < 7) = true := decide_eq_true (by omega)
    rw [hL] at PR
    clear hL hFl h7
    generalize ws.length = K at *
    go_wp2_with (refine wpList_append_vec' rfl _ _ 45 rfl B 38 i _ 4 Safg.underlying45 PR.out.info PR.out.zero PR.out.size PR.out.bytes hz1 _ _ (K + 1) PR.out.len rfl PR.out.vec ⟨w5.heap.size, 0, none⟩ 1 1 [.int .u32 0] rfl rfl PR.out.cells PR.out.one (by omega) (by omega) (by omega) PR.out.hB ?_; intro g cap' w6 a1 a2 a3 a4 a5; have c113 := (a4.cell (p := ⟨T, 11, none⟩) PR.out.lt PR.out.nT).trans PR.out.c11; have c606 := (HJ6.out.1.turn a4 HJ6.out.2).get (ansC_0 _ _ _ _); have fr3 := (a4.frozen (p := ⟨T, 11, none⟩) PR.out.lt PR.out.nT).trans PR.out.f11; have HA : Hid (∀ w', Same (w6.setCell ⟨T, 11, none⟩ (.slice (some ⟨g, 0, none⟩) ((K + 1) + 1) cap')) w' → WPost B T w5 w' (Value.slice (some ⟨gw, 0, none⟩) (K + 1) cap) ((ws ++ [x]) ++ [0])) := fun w' hs => PR.out.fin g cap' w6 w' a1 a2 a3 a4 a5 hs; clear a1 a2 a3 a4 a5)
    go_ret
    exact ⟨rfl, _, FR.out, (HA.out _ (Same.refl _)).after hlT BB.out⟩
  | false =>
    have h7 : ¬ (G ++ [t]).length < 7 := of_decide_eq_false HOK.out
    have FR : Hid (WRel (ws ++ [x]) (stepF (G ++ [t]) 0 a b n f)) := by
      show WRel (ws ++ [x]) (enterF (G ++ [t]))
      unfold enterF
      rw [if_neg h7]
      exact HREL.out.1.push HREL.out.2
    have t8 : decide ((ws.length : Int) + 1 < 7) = false := decide_eq_false (by omega)
    clear hL hFl h7 PR
    generalize ws.length = K at *
    go_wp2
    go_ret
    exact ⟨rfl, _, FR.out, (HWD.out.grew (Below.refl _ _)).after hlT BB.out⟩


set_option maxRecDepth 100000 in
set_option maxHeartbeats 4000000 in
theorem judge_1_none (w : World) (B T : Nat) (bv : Value) (buf base : List Nat) (F' : List (List Nat)) (har : ArF B T w bv buf base F') (wv : Value) (words : List Nat) (hw : Wd B T w wv words) (hrel : WRel words []) (hF : FOk []) (hBw : B ≤ w.heap.size)
    (a b n f : Nat) (ha : a < 4294967296) (hb : b < 4294967296) (hn : n < 4294967296) (ra rb : Option Addr) (m m' : Nat) (hra : RdNew m w ra (stepRead [] 1 a n)) (hrb : RdNew m' w rb (stepRead [] 1 a n)) :
    Calls Safg.prog 19 #[.pointer (some ⟨T, 0, none⟩), .agg (opC 1 a b n f).toArray, .agg (ansC (stepOk [] 1 a b n) (stepSize [] 1) (stepWord [] 1 a) (.slice ra (stepRead [] 1 a n).length (stepRead [] 1 a n).length)).toArray, .agg (ansC (stepOk [] 1 a b n) (stepSize [] 1) (stepWord [] 1 a) (.slice rb (stepRead [] 1 a n).length (stepRead [] 1 a n).length)).toArray] w fun e w' =>
      e = .returned (.bool true) ∧ ∃ words', WRel words' (stepF [] 1 a b n f) ∧ WPost B T w w' wv words' := by
  have hWl : (stepWord [] 1 a).length = 32 := stepWord_length
  have hWd : D.Dig (stepWord [] 1 a) := stepWord_dig hF
  have hnn := hra.cases hrb
  have RA := hra.rd
  have RB := hrb.rd
  have HRA : Hid (RdNew m w ra (stepRead [] 1 a n)) := hra
  clear hra hrb
  obtain ⟨ok, HOK⟩ : ∃ ok, Hid (stepOk [] 1 a b n = ok) := ⟨_, rfl⟩
  obtain ⟨sz, HSZ⟩ : ∃ sz, Hid (stepSize [] 1 = sz) := ⟨_, rfl⟩
  obtain ⟨W, HW⟩ : ∃ W, Hid (stepWord [] 1 a = W) := ⟨_, rfl⟩
  obtain ⟨r, HR⟩ : ∃ r, Hid (stepRead [] 1 a n = r) := ⟨_, rfl⟩
  obtain ⟨rl, HRL⟩ : ∃ rl, Hid (r.length = rl) := ⟨_, rfl⟩
  rw [HW.out] at hWl hWd
  rw [HR.out, HRL.out] at RA RB
  rw [HOK.out, HSZ.out, HW.out, HR.out, HRL.out]
  go_enter Safg.func19, Safg.ntmps19
  go_upto_region 1 with (first | (refine wpList_box_agg rfl 49 (.tmp 1) rfl (opC 1 a b n f) rfl ?_; intro w1 g5 hg5 k5 b1) | (refine wpList_box_agg rfl 52 (.tmp 2) rfl _ rfl ?_; intro w2 g6 hg6 k6 b2) | (refine wpList_box_agg rfl 52 (.tmp 3) rfl _ rfl ?_; intro w3 g7 hg7 k7 b3))
  have k6' := k6.below b3 k6.lt
  have k5' := (k5.below b2 k5.lt).below b3 (Nat.lt_of_lt_of_le k5.lt b2.size)
  have b03 : Below w.heap.size w w3 := (b1.trans (b2.mono b1.size)).trans (b3.mono (Nat.le_trans b1.size b2.size))
  have HS := same_true w3 ok sz W r ra rb rl hWl hWd (RA.below b03) (RB.below b03) hnn
  have hlT := hw.lt
  have hs01 := b1.size
  have hs02 := b2.size
  clear k5 k6 b1 b2 b3 RA RB hnn
  go_upto_region 3 with (first | (refine wpList_load_agg rfl 52 (.tmp 6) rfl g6 rfl _ k6' _ Safg.underlying52 (size52c hWl) ?_) | (refine wpList_load_agg rfl 52 (.tmp 7) rfl g7 rfl _ k7 _ Safg.underlying52 (size52c hWl) ?_) | (go_at_call 62; refine HS.mono ?_; rintro e w4 ⟨rfl, b4⟩; have b04 : Below w.heap.size w w4 := b03.trans (b4.mono b03.size); have HCK := aCheck w4 B T bv buf base F' (har.below b04)) | (go_at_call 61; refine HCK.mono ?_; rintro e w5 ⟨rfl, s5⟩))
  have b05 : Below w.heap.size w w5 := b04.trans (s5.below _)
  have j5 := s5.blk (k5'.below b4 k5'.lt)
  have j6 := s5.blk (k6'.below b4 k6'.lt)
  have hw5 := hw.below b05
  have hlT5 := hw5.lt
  have hsz5 := b05.size
  have c50 := j5.get (j := 0) (v := .int .u8 ((1 : Nat) : Int)) rfl
  have c60 := j6.get (ansC_0 _ _ _ _)
  have BB : Hid (Below w.heap.size w w5) := b05
  clear HS HCK b03 b04 b05 b4 s5 k5' k6' k7
  have hwn : words = [] := List.eq_nil_of_length_eq_zero hrel.len
  subst hwn
  obtain ⟨fa, fc, rfl, _, _⟩ := hw5.len_of
  have c11 := hw5.c11
  have HWD : Hid (Wd B T w5 (.slice fa 0 fc) []) := hw5
  have hnb6 : g6 ∉ (Value.slice fa 0 fc).ownBlock.toList := by
    intro hm
    simp only [Option.mem_toList] at hm
    have := (hw.vec.block_lt hm).1
    omega
  clear hw5 hw hrel
  obtain rfl : ok = false := HOK.out.symm
  go_wp2
  go_ret
  exact ⟨rfl, [], WRel.nil, (HWD.out.grew (Below.refl _ _)).after hlT BB.out⟩


set_option maxRecDepth 100000 in
set_option maxHeartbeats 4000000 in
theorem judge_1_some (w : World) (B T : Nat) (bv : Value) (buf base : List Nat) (G : List (List Nat)) (t : List Nat) (F' : List (List Nat)) (har : ArF B T w bv buf base F') (wv : Value) (words : List Nat) (hw : Wd B T w wv words) (hrel : WRel words (G ++ [t])) (hF : FOk (G ++ [t])) (hBw : B ≤ w.heap.size)
    (a b n f : Nat) (ha : a < 4294967296) (hb : b < 4294967296) (hn : n < 4294967296) (ra rb : Option Addr) (m m' : Nat) (hra : RdNew m w ra (stepRead (G ++ [t]) 1 a n)) (hrb : RdNew m' w rb (stepRead (G ++ [t]) 1 a n)) :
    Calls Safg.prog 19 #[.pointer (some ⟨T, 0, none⟩), .agg (opC 1 a b n f).toArray, .agg (ansC (stepOk (G ++ [t]) 1 a b n) (stepSize (G ++ [t]) 1) (stepWord (G ++ [t]) 1 a) (.slice ra (stepRead (G ++ [t]) 1 a n).length (stepRead (G ++ [t]) 1 a n).length)).toArray, .agg (ansC (stepOk (G ++ [t]) 1 a b n) (stepSize (G ++ [t]) 1) (stepWord (G ++ [t]) 1 a) (.slice rb (stepRead (G ++ [t]) 1 a n).length (stepRead (G ++ [t]) 1 a n).length)).toArray] w fun e w' =>
      e = .returned (.bool true) ∧ ∃ words', WRel words' (stepF (G ++ [t]) 1 a b n f) ∧ WPost B T w w' wv words' := by
  have hWl : (stepWord (G ++ [t]) 1 a).length = 32 := stepWord_length
  have hWd : D.Dig (stepWord (G ++ [t]) 1 a) := stepWord_dig hF
  have hnn := hra.cases hrb
  have RA := hra.rd
  have RB := hrb.rd
  have HRA : Hid (RdNew m w ra (stepRead (G ++ [t]) 1 a n)) := hra
  clear hra hrb
  obtain ⟨ok, HOK⟩ : ∃ ok, Hid (stepOk (G ++ [t]) 1 a b n = ok) := ⟨_, rfl⟩
  obtain ⟨sz, HSZ⟩ : ∃ sz, Hid (stepSize (G ++ [t]) 1 = sz) := ⟨_, rfl⟩
  obtain ⟨W, HW⟩ : ∃ W, Hid (stepWord (G ++ [t]) 1 a = W) := ⟨_, rfl⟩
  obtain ⟨r, HR⟩ : ∃ r, Hid (stepRead (G ++ [t]) 1 a n = r) := ⟨_, rfl⟩
  obtain ⟨rl, HRL⟩ : ∃ rl, Hid (r.length = rl) := ⟨_, rfl⟩
  rw [HW.out] at hWl hWd
  rw [HR.out, HRL.out] at RA RB
  rw [HOK.out, HSZ.out, HW.out, HR.out, HRL.out]
  go_enter Safg.func19, Safg.ntmps19
  go_upto_region 1 with (first | (refine wpList_box_agg rfl 49 (.tmp 1) rfl (opC 1 a b n f) rfl ?_; intro w1 g5 hg5 k5 b1) | (refine wpList_box_agg rfl 52 (.tmp 2) rfl _ rfl ?_; intro w2 g6 hg6 k6 b2) | (refine wpList_box_agg rfl 52 (.tmp 3) rfl _ rfl ?_; intro w3 g7 hg7 k7 b3))
  have k6' := k6.below b3 k6.lt
  have k5' := (k5.below b2 k5.lt).below b3 (Nat.lt_of_lt_of_le k5.lt b2.size)
  have b03 : Below w.heap.size w w3 := (b1.trans (b2.mono b1.size)).trans (b3.mono (Nat.le_trans b1.size b2.size))
  have HS := same_true w3 ok sz W r ra rb rl hWl hWd (RA.below b03) (RB.below b03) hnn
  have hlT := hw.lt
  have hs01 := b1.size
  have hs02 := b2.size
  clear k5 k6 b1 b2 b3 RA RB hnn
  go_upto_region 3 with (first | (refine wpList_load_agg rfl 52 (.tmp 6) rfl g6 rfl _ k6' _ Safg.underlying52 (size52c hWl) ?_) | (refine wpList_load_agg rfl 52 (.tmp 7) rfl g7 rfl _ k7 _ Safg.underlying52 (size52c hWl) ?_) | (go_at_call 62; refine HS.mono ?_; rintro e w4 ⟨rfl, b4⟩; have b04 : Below w.heap.size w w4 := b03.trans (b4.mono b03.size); have HCK := aCheck w4 B T bv buf base F' (har.below b04)) | (go_at_call 61; refine HCK.mono ?_; rintro e w5 ⟨rfl, s5⟩))
  have b05 : Below w.heap.size w w5 := b04.trans (s5.below _)
  have j5 := s5.blk (k5'.below b4 k5'.lt)
  have j6 := s5.blk (k6'.below b4 k6'.lt)
  have hw5 := hw.below b05
  have hlT5 := hw5.lt
  have hsz5 := b05.size
  have c50 := j5.get (j := 0) (v := .int .u8 ((1 : Nat) : Int)) rfl
  have c60 := j6.get (ansC_0 _ _ _ _)
  have BB : Hid (Below w.heap.size w w5) := b05
  clear HS HCK b03 b04 b05 b4 s5 k5' k6' k7
  obtain ⟨ws, x, rfl, hrel2, hx⟩ := hrel.last
  have hlr := hrel2.len
  obtain ⟨gw, cap, rfl, cw, fw, hgT, hcap, hcm, hgl, hBg, _⟩ := hw5.top
  have c11 := hw5.c11
  have HWD : Hid (Wd B T w5 (.slice (some ⟨gw, 0, none⟩) (ws.length + 1) cap) (ws ++ [x])) := hw5
  have hgw0 := (hw.vec.block_lt (g := gw) rfl).1
  have hgw6 : gw ≠ g6 := by omega
  have hgw5 : gw ≠ g5 := by omega
  have hnb6 : g6 ∉ (Value.slice (some ⟨gw, 0, none⟩) (ws.length + 1) cap).ownBlock.toList := by simp [Value.ownBlock]; omega
  have HREL : Hid (WRel ws G ∧ 32 * x = t.length) := ⟨hrel2, hx⟩
  have tl := hF.low t (by simp)
  have few := hF.few
  have hk7 : ws.length ≤ 6 := by simp at few; omega
  unfold u32V at cw
  have HMM : Hid (G.length = ws.length) := hlr.symm
  have hx1 : x ≤ 22415 := by omega
  have hml : maxLen = 9223372036854775807 := rfl
  clear hw5 hw hrel hrel2 hlr few hx
  obtain rfl : ok = true := by rw [← HOK.out]; simp [stepOk]
  have hwl := HMM.out
  have FIN : Hid (∀ w', Same (w5.setCell ⟨T, 11, none⟩ (.slice (some ⟨gw, 0, none⟩) ws.length cap)) w' → ∃ words', WRel words' (stepF (G ++ [t]) 1 a b n f) ∧ WPost B T w w' (.slice (some ⟨gw, 0, none⟩) (ws.length + 1) cap) words') := by
    intro w' hs
    refine ⟨ws, ?_, (HWD.out.pop hs).after hlT BB.out⟩
    show WRel ws (G ++ [t]).dropLast
    rw [show (G ++ [t]).dropLast = G by simp]
    exact HREL.out.1
  have f11 := HWD.out.free 11
  generalize ws.length = K at *
  go_wp2
  go_ret
  exact ⟨rfl, FIN.out _ (Same.refl _)⟩


set_option maxRecDepth 100000 in
set_option maxHeartbeats 4000000 in
theorem judge_2_none (w : World) (B T : Nat) (bv : Value) (buf base : List Nat) (F' : List (List Nat)) (har : ArF B T w bv buf base F') (wv : Value) (words : List Nat) (hw : Wd B T w wv words) (hrel : WRel words []) (hF : FOk []) (hBw : B ≤ w.heap.size)
    (a b n f : Nat) (ha : a < 4294967296) (hb : b < 4294967296) (hn : n < 4294967296) (ra rb : Option Addr) (m m' : Nat) (hra : RdNew m w ra (stepRead [] 2 a n)) (hrb : RdNew m' w rb (stepRead [] 2 a n)) :
    Calls Safg.prog 19 #[.pointer (some ⟨T, 0, none⟩), .agg (opC 2 a b n f).toArray, .agg (ansC (stepOk [] 2 a b n) (stepSize [] 2) (stepWord [] 2 a) (.slice ra (stepRead [] 2 a n).length (stepRead [] 2 a n).length)).toArray, .agg (ansC (stepOk [] 2 a b n) (stepSize [] 2) (stepWord [] 2 a) (.slice rb (stepRead [] 2 a n).length (stepRead [] 2 a n).length)).toArray] w fun e w' =>
      e = .returned (.bool true) ∧ ∃ words', WRel words' (stepF [] 2 a b n f) ∧ WPost B T w w' wv words' := by
  have hWl : (stepWord [] 2 a).length = 32 := stepWord_length
  have hWd : D.Dig (stepWord [] 2 a) := stepWord_dig hF
  have hnn := hra.cases hrb
  have RA := hra.rd
  have RB := hrb.rd
  have HRA : Hid (RdNew m w ra (stepRead [] 2 a n)) := hra
  clear hra hrb
  obtain ⟨ok, HOK⟩ : ∃ ok, Hid (stepOk [] 2 a b n = ok) := ⟨_, rfl⟩
  obtain ⟨sz, HSZ⟩ : ∃ sz, Hid (stepSize [] 2 = sz) := ⟨_, rfl⟩
  obtain ⟨W, HW⟩ : ∃ W, Hid (stepWord [] 2 a = W) := ⟨_, rfl⟩
  obtain ⟨r, HR⟩ : ∃ r, Hid (stepRead [] 2 a n = r) := ⟨_, rfl⟩
  obtain ⟨rl, HRL⟩ : ∃ rl, Hid (r.length = rl) := ⟨_, rfl⟩
  rw [HW.out] at hWl hWd
  rw [HR.out, HRL.out] at RA RB
  rw [HOK.out, HSZ.out, HW.out, HR.out, HRL.out]
  go_enter Safg.func19, Safg.ntmps19
  go_upto_region 1 with (first | (refine wpList_box_agg rfl 49 (.tmp 1) rfl (opC 2 a b n f) rfl ?_; intro w1 g5 hg5 k5 b1) | (refine wpList_box_agg rfl 52 (.tmp 2) rfl _ rfl ?_; intro w2 g6 hg6 k6 b2) | (refine wpList_box_agg rfl 52 (.tmp 3) rfl _ rfl ?_; intro w3 g7 hg7 k7 b3))
  have k6' := k6.below b3 k6.lt
  have k5' := (k5.below b2 k5.lt).below b3 (Nat.lt_of_lt_of_le k5.lt b2.size)
  have b03 : Below w.heap.size w w3 := (b1.trans (b2.mono b1.size)).trans (b3.mono (Nat.le_trans b1.size b2.size))
  have HS := same_true w3 ok sz W r ra rb rl hWl hWd (RA.below b03) (RB.below b03) hnn
  have hlT := hw.lt
  have hs01 := b1.size
  have hs02 := b2.size
  clear k5 k6 b1 b2 b3 RA RB hnn
  go_upto_region 3 with (first | (refine wpList_load_agg rfl 52 (.tmp 6) rfl g6 rfl _ k6' _ Safg.underlying52 (size52c hWl) ?_) | (refine wpList_load_agg rfl 52 (.tmp 7) rfl g7 rfl _ k7 _ Safg.underlying52 (size52c hWl) ?_) | (go_at_call 62; refine HS.mono ?_; rintro e w4 ⟨rfl, b4⟩; have b04 : Below w.heap.size w w4 := b03.trans (b4.mono b03.size); have HCK := aCheck w4 B T bv buf base F' (har.below b04)) | (go_at_call 61; refine HCK.mono ?_; rintro e w5 ⟨rfl, s5⟩))
  have b05 : Below w.heap.size w w5 := b04.trans (s5.below _)
  have j5 := s5.blk (k5'.below b4 k5'.lt)
  have j6 := s5.blk (k6'.below b4 k6'.lt)
  have hw5 := hw.below b05
  have hlT5 := hw5.lt
  have hsz5 := b05.size
  have c50 := j5.get (j := 0) (v := .int .u8 ((2 : Nat) : Int)) rfl
  have c60 := j6.get (ansC_0 _ _ _ _)
  have BB : Hid (Below w.heap.size w w5) := b05
  clear HS HCK b03 b04 b05 b4 s5 k5' k6' k7
  have hwn : words = [] := List.eq_nil_of_length_eq_zero hrel.len
  subst hwn
  obtain ⟨fa, fc, rfl, _, _⟩ := hw5.len_of
  have c11 := hw5.c11
  have HWD : Hid (Wd B T w5 (.slice fa 0 fc) []) := hw5
  have hnb6 : g6 ∉ (Value.slice fa 0 fc).ownBlock.toList := by
    intro hm
    simp only [Option.mem_toList] at hm
    have := (hw.vec.block_lt hm).1
    omega
  clear hw5 hw hrel
  obtain rfl : ok = false := HOK.out.symm
  go_wp2
  go_ret
  exact ⟨rfl, [], WRel.nil, (HWD.out.grew (Below.refl _ _)).after hlT BB.out⟩


set_option maxRecDepth 100000 in
set_option maxHeartbeats 4000000 in
theorem judge_2_some (w : World) (B T : Nat) (bv : Value) (buf base : List Nat) (G : List (List Nat)) (t : List Nat) (F' : List (List Nat)) (har : ArF B T w bv buf base F') (wv : Value) (words : List Nat) (hw : Wd B T w wv words) (hrel : WRel words (G ++ [t])) (hF : FOk (G ++ [t])) (hBw : B ≤ w.heap.size)
    (a b n f : Nat) (ha : a < 4294967296) (hb : b < 4294967296) (hn : n < 4294967296) (ra rb : Option Addr) (m m' : Nat) (hra : RdNew m w ra (stepRead (G ++ [t]) 2 a n)) (hrb : RdNew m' w rb (stepRead (G ++ [t]) 2 a n)) :
    Calls Safg.prog 19 #[.pointer (some ⟨T, 0, none⟩), .agg (opC 2 a b n f).toArray, .agg (ansC (stepOk (G ++ [t]) 2 a b n) (stepSize (G ++ [t]) 2) (stepWord (G ++ [t]) 2 a) (.slice ra (stepRead (G ++ [t]) 2 a n).length (stepRead (G ++ [t]) 2 a n).length)).toArray, .agg (ansC (stepOk (G ++ [t]) 2 a b n) (stepSize (G ++ [t]) 2) (stepWord (G ++ [t]) 2 a) (.slice rb (stepRead (G ++ [t]) 2 a n).length (stepRead (G ++ [t]) 2 a n).length)).toArray] w fun e w' =>
      e = .returned (.bool true) ∧ ∃ words', WRel words' (stepF (G ++ [t]) 2 a b n f) ∧ WPost B T w w' wv words' := by
  have hWl : (stepWord (G ++ [t]) 2 a).length = 32 := stepWord_length
  have hWd : D.Dig (stepWord (G ++ [t]) 2 a) := stepWord_dig hF
  have hnn := hra.cases hrb
  have RA := hra.rd
  have RB := hrb.rd
  have HRA : Hid (RdNew m w ra (stepRead (G ++ [t]) 2 a n)) := hra
  clear hra hrb
  obtain ⟨ok, HOK⟩ : ∃ ok, Hid (stepOk (G ++ [t]) 2 a b n = ok) := ⟨_, rfl⟩
  obtain ⟨sz, HSZ⟩ : ∃ sz, Hid (stepSize (G ++ [t]) 2 = sz) := ⟨_, rfl⟩
  obtain ⟨W, HW⟩ : ∃ W, Hid (stepWord (G ++ [t]) 2 a = W) := ⟨_, rfl⟩
  obtain ⟨r, HR⟩ : ∃ r, Hid (stepRead (G ++ [t]) 2 a n = r) := ⟨_, rfl⟩
  obtain ⟨rl, HRL⟩ : ∃ rl, Hid (r.length = rl) := ⟨_, rfl⟩
  rw [HW.out] at hWl hWd
  rw [HR.out, HRL.out] at RA RB
  rw [HOK.out, HSZ.out, HW.out, HR.out, HRL.out]
  go_enter Safg.func19, Safg.ntmps19
  go_upto_region 1 with (first | (refine wpList_box_agg rfl 49 (.tmp 1) rfl (opC 2 a b n f) rfl ?_; intro w1 g5 hg5 k5 b1) | (refine wpList_box_agg rfl 52 (.tmp 2) rfl _ rfl ?_; intro w2 g6 hg6 k6 b2) | (refine wpList_box_agg rfl 52 (.tmp 3) rfl _ rfl ?_; intro w3 g7 hg7 k7 b3))
  have k6' := k6.below b3 k6.lt
  have k5' := (k5.below b2 k5.lt).below b3 (Nat.lt_of_lt_of_le k5.lt b2.size)
  have b03 : Below w.heap.size w w3 := (b1.trans (b2.mono b1.size)).trans (b3.mono (Nat.le_trans b1.size b2.size))
  have HS := same_true w3 ok sz W r ra rb rl hWl hWd (RA.below b03) (RB.below b03) hnn
  have hlT := hw.lt
  have hs01 := b1.size
  have hs02 := b2.size
  clear k5 k6 b1 b2 b3 RA RB hnn
  go_upto_region 3 with (first | (refine wpList_load_agg rfl 52 (.tmp 6) rfl g6 rfl _ k6' _ Safg.underlying52 (size52c hWl) ?_) | (refine wpList_load_agg rfl 52 (.tmp 7) rfl g7 rfl _ k7 _ Safg.underlying52 (size52c hWl) ?_) | (go_at_call 62; refine HS.mono ?_; rintro e w4 ⟨rfl, b4⟩; have b04 : Below w.heap.size w w4 := b03.trans (b4.mono b03.size); have HCK := aCheck w4 B T bv buf base F' (har.below b04)) | (go_at_call 61; refine HCK.mono ?_; rintro e w5 ⟨rfl, s5⟩))
  have b05 : Below w.heap.size w w5 := b04.trans (s5.below _)
  have j5 := s5.blk (k5'.below b4 k5'.lt)
  have j6 := s5.blk (k6'.below b4 k6'.lt)
  have hw5 := hw.below b05
  have hlT5 := hw5.lt
  have hsz5 := b05.size
  have c50 := j5.get (j := 0) (v := .int .u8 ((2 : Nat) : Int)) rfl
  have c60 := j6.get (ansC_0 _ _ _ _)
  have BB : Hid (Below w.heap.size w w5) := b05
  clear HS HCK b03 b04 b05 b4 s5 k5' k6' k7
  obtain ⟨ws, x, rfl, hrel2, hx⟩ := hrel.last
  have hlr := hrel2.len
  obtain ⟨gw, cap, rfl, cw, fw, hgT, hcap, hcm, hgl, hBg, _⟩ := hw5.top
  have c11 := hw5.c11
  have HWD : Hid (Wd B T w5 (.slice (some ⟨gw, 0, none⟩) (ws.length + 1) cap) (ws ++ [x])) := hw5
  have hgw0 := (hw.vec.block_lt (g := gw) rfl).1
  have hgw6 : gw ≠ g6 := by omega
  have hgw5 : gw ≠ g5 := by omega
  have hnb6 : g6 ∉ (Value.slice (some ⟨gw, 0, none⟩) (ws.length + 1) cap).ownBlock.toList := by simp [Value.ownBlock]; omega
  have HREL : Hid (WRel ws G ∧ 32 * x = t.length) := ⟨hrel2, hx⟩
  have tl := hF.low t (by simp)
  have few := hF.few
  have hk7 : ws.length ≤ 6 := by simp at few; omega
  unfold u32V at cw
  have HMM : Hid (G.length = ws.length) := hlr.symm
  have hx1 : x ≤ 22415 := by omega
  have hml : maxLen = 9223372036854775807 := rfl
  clear hw5 hw hrel hrel2 hlr few hx
  have c51 := j5.get (j := 1) (v := .int .u32 (a : Int)) rfl
  have hok : decide (a ≤ 22415) = ok := by
    rw [← HOK.out]
    exact (growOk_app G t a).symm
  cases ok with
  | true =>
    have h2 : a ≤ 22415 := of_decide_eq_true hok
    have t2 : decide ((a : Int) ≤ 22415) = true := decide_eq_true (by omega)
    have FIN : Hid (∀ w', Same (w5.setCell ⟨gw, ws.length, none⟩ (.int .u32 ((max x a : Nat) : Int))) w' → ∃ words', WRel words' (stepF (G ++ [t]) 2 a b n f) ∧ WPost B T w w' (.slice (some ⟨gw, 0, none⟩) (ws.length + 1) cap) words') := by
      intro w' hs
      refine ⟨ws ++ [max x a], ?_, (HWD.out.setTop (y := max x a) hs).after hlT BB.out⟩
      show WRel (ws ++ [max x a]) (growF (G ++ [t]) a)
      have hx := HREL.out.2
      unfold growF
      split
      · rename_i hc
        rw [topF_app] at hc
        rw [topF_app, show (G ++ [t]).dropLast = G by simp]
        refine HREL.out.1.push ?_
        simp
        omega
      · rename_i hc
        rw [topF_app, growOk_app] at hc
        have : ¬ t.length < 32 * a := fun h => hc ⟨decide_eq_true h2, h⟩
        refine HREL.out.1.push ?_
        omega
    clear hok
    have hx2 : x < 4294967296 := by omega
    generalize ws.length = K at *
    go_upto_region 18 with fail
    go_region
    have hmx : (if x < a then (a : Int) else (x : Int)) = ((max x a : Nat) : Int) := by split <;> omega
    rw [hmx]
    have c606 : (w5.setCell ⟨gw, K, none⟩ (.int .u32 ((max x a : Nat) : Int))).cell? ⟨g6, 0, none⟩ = some (.bool true) := (cell_far hgw6.symm).trans c60
    have c516 : (w5.setCell ⟨gw, K, none⟩ (.int .u32 ((max x a : Nat) : Int))).cell? ⟨g5, 1, none⟩ = some (.int .u32 (a : Int)) := (cell_far hgw5.symm).trans c51
    obtain ⟨w6, HW6⟩ : ∃ w6, Hid (w5.setCell ⟨gw, K, none⟩ (.int .u32 ((max x a : Nat) : Int)) = w6) := ⟨_, rfl⟩
    rw [HW6.out] at c606 c516 ⊢
    clear c60 c51 c11 cw hmx
    go_wp2
    go_ret
    refine ⟨rfl, FIN.out _ ?_⟩
    rw [HW6.out]
    exact Same.drew _
  | false =>
    have h2 : ¬ a ≤ 22415 := of_decide_eq_false hok
    have t2 : decide ((a : Int) ≤ 22415) = false := decide_eq_false (by omega)
    have FR : Hid (WRel (ws ++ [x]) (stepF (G ++ [t]) 2 a b n f)) := by
      show WRel (ws ++ [x]) (growF (G ++ [t]) a)
      rw [growF_no (by rw [growOk_app]; exact hok)]
      exact HREL.out.1.push HREL.out.2
    clear hok
    generalize ws.length = K at *
    go_wp2
    go_ret
    exact ⟨rfl, _, FR.out, (HWD.out.grew (Below.refl _ _)).after hlT BB.out⟩


set_option maxRecDepth 100000 in
set_option maxHeartbeats 4000000 in
theorem judge_3_none (w : World) (B T : Nat) (bv : Value) (buf base : List Nat) (F' : List (List Nat)) (har : ArF B T w bv buf base F') (wv : Value) (words : List Nat) (hw : Wd B T w wv words) (hrel : WRel words []) (hF : FOk []) (hBw : B ≤ w.heap.size)
    (a b n f : Nat) (ha : a < 4294967296) (hb : b < 4294967296) (hn : n < 4294967296) (ra rb : Option Addr) (m m' : Nat) (hra : RdNew m w ra (stepRead [] 3 a n)) (hrb : RdNew m' w rb (stepRead [] 3 a n)) :
    Calls Safg.prog 19 #[.pointer (some ⟨T, 0, none⟩), .agg (opC 3 a b n f).toArray, .agg (ansC (stepOk [] 3 a b n) (stepSize [] 3) (stepWord [] 3 a) (.slice ra (stepRead [] 3 a n).length (stepRead [] 3 a n).length)).toArray, .agg (ansC (stepOk [] 3 a b n) (stepSize [] 3) (stepWord [] 3 a) (.slice rb (stepRead [] 3 a n).length (stepRead [] 3 a n).length)).toArray] w fun e w' =>
      e = .returned (.bool true) ∧ ∃ words', WRel words' (stepF [] 3 a b n f) ∧ WPost B T w w' wv words' := by
  have hWl : (stepWord [] 3 a).length = 32 := stepWord_length
  have hWd : D.Dig (stepWord [] 3 a) := stepWord_dig hF
  have hnn := hra.cases hrb
  have RA := hra.rd
  have RB := hrb.rd
  have HRA : Hid (RdNew m w ra (stepRead [] 3 a n)) := hra
  clear hra hrb
  obtain ⟨ok, HOK⟩ : ∃ ok, Hid (stepOk [] 3 a b n = ok) := ⟨_, rfl⟩
  obtain ⟨sz, HSZ⟩ : ∃ sz, Hid (stepSize [] 3 = sz) := ⟨_, rfl⟩
  obtain ⟨W, HW⟩ : ∃ W, Hid (stepWord [] 3 a = W) := ⟨_, rfl⟩
  obtain ⟨r, HR⟩ : ∃ r, Hid (stepRead [] 3 a n = r) := ⟨_, rfl⟩
  obtain ⟨rl, HRL⟩ : ∃ rl, Hid (r.length = rl) := ⟨_, rfl⟩
  rw [HW.out] at hWl hWd
  rw [HR.out, HRL.out] at RA RB
  rw [HOK.out, HSZ.out, HW.out, HR.out, HRL.out]
  go_enter Safg.func19, Safg.ntmps19
  go_upto_region 1 with (first | (refine wpList_box_agg rfl 49 (.tmp 1) rfl (opC 3 a b n f) rfl ?_; intro w1 g5 hg5 k5 b1) | (refine wpList_box_agg rfl 52 (.tmp 2) rfl _ rfl ?_; intro w2 g6 hg6 k6 b2) | (refine wpList_box_agg rfl 52 (.tmp 3) rfl _ rfl ?_; intro w3 g7 hg7 k7 b3))
  have k6' := k6.below b3 k6.lt
  have k5' := (k5.below b2 k5.lt).below b3 (Nat.lt_of_lt_of_le k5.lt b2.size)
  have b03 : Below w.heap.size w w3 := (b1.trans (b2.mono b1.size)).trans (b3.mono (Nat.le_trans b1.size b2.size))
  have HS := same_true w3 ok sz W r ra rb rl hWl hWd (RA.below b03) (RB.below b03) hnn
  have hlT := hw.lt
  have hs01 := b1.size
  have hs02 := b2.size
  clear k5 k6 b1 b2 b3 RA RB hnn
  go_upto_region 3 with (first | (refine wpList_load_agg rfl 52 (.tmp 6) rfl g6 rfl _ k6' _ Safg.underlying52 (size52c hWl) ?_) | (refine wpList_load_agg rfl 52 (.tmp 7) rfl g7 rfl _ k7 _ Safg.underlying52 (size52c hWl) ?_) | (go_at_call 62; refine HS.mono ?_; rintro e w4 ⟨rfl, b4⟩; have b04 : Below w.heap.size w w4 := b03.trans (b4.mono b03.size); have HCK := aCheck w4 B T bv buf base F' (har.below b04)) | (go_at_call 61; refine HCK.mono ?_; rintro e w5 ⟨rfl, s5⟩))
  have b05 : Below w.heap.size w w5 := b04.trans (s5.below _)
  have j5 := s5.blk (k5'.below b4 k5'.lt)
  have j6 := s5.blk (k6'.below b4 k6'.lt)
  have hw5 := hw.below b05
  have hlT5 := hw5.lt
  have hsz5 := b05.size
  have c50 := j5.get (j := 0) (v := .int .u8 ((3 : Nat) : Int)) rfl
  have c60 := j6.get (ansC_0 _ _ _ _)
  have BB : Hid (Below w.heap.size w w5) := b05
  clear HS HCK b03 b04 b05 b4 s5 k5' k6' k7
  have hwn : words = [] := List.eq_nil_of_length_eq_zero hrel.len
  subst hwn
  obtain ⟨fa, fc, rfl, _, _⟩ := hw5.len_of
  have c11 := hw5.c11
  have HWD : Hid (Wd B T w5 (.slice fa 0 fc) []) := hw5
  have hnb6 : g6 ∉ (Value.slice fa 0 fc).ownBlock.toList := by
    intro hm
    simp only [Option.mem_toList] at hm
    have := (hw.vec.block_lt hm).1
    omega
  clear hw5 hw hrel
  have c61 := j6.get (ansC_1 _ _ _ _)
  obtain rfl : sz = 0 := HSZ.out.symm
  go_wp2
  go_ret
  exact ⟨rfl, [], WRel.nil, (HWD.out.grew (Below.refl _ _)).after hlT BB.out⟩


set_option maxRecDepth 100000 in
set_option maxHeartbeats 4000000 in
theorem judge_3_some (w : World) (B T : Nat) (bv : Value) (buf base : List Nat) (G : List (List Nat)) (t : List Nat) (F' : List (List Nat)) (har : ArF B T w bv buf base F') (wv : Value) (words : List Nat) (hw : Wd B T w wv words) (hrel : WRel words (G ++ [t])) (hF : FOk (G ++ [t])) (hBw : B ≤ w.heap.size)
    (a b n f : Nat) (ha : a < 4294967296) (hb : b < 4294967296) (hn : n < 4294967296) (ra rb : Option Addr) (m m' : Nat) (hra : RdNew m w ra (stepRead (G ++ [t]) 3 a n)) (hrb : RdNew m' w rb (stepRead (G ++ [t]) 3 a n)) :
    Calls Safg.prog 19 #[.pointer (some ⟨T, 0, none⟩), .agg (opC 3 a b n f).toArray, .agg (ansC (stepOk (G ++ [t]) 3 a b n) (stepSize (G ++ [t]) 3) (stepWord (G ++ [t]) 3 a) (.slice ra (stepRead (G ++ [t]) 3 a n).length (stepRead (G ++ [t]) 3 a n).length)).toArray, .agg (ansC (stepOk (G ++ [t]) 3 a b n) (stepSize (G ++ [t]) 3) (stepWord (G ++ [t]) 3 a) (.slice rb (stepRead (G ++ [t]) 3 a n).length (stepRead (G ++ [t]) 3 a n).length)).toArray] w fun e w' =>
      e = .returned (.bool true) ∧ ∃ words', WRel words' (stepF (G ++ [t]) 3 a b n f) ∧ WPost B T w w' wv words' := by
  have hWl : (stepWord (G ++ [t]) 3 a).length = 32 := stepWord_length
  have hWd : D.Dig (stepWord (G ++ [t]) 3 a) := stepWord_dig hF
  have hnn := hra.cases hrb
  have RA := hra.rd
  have RB := hrb.rd
  have HRA : Hid (RdNew m w ra (stepRead (G ++ [t]) 3 a n)) := hra
  clear hra hrb
  obtain ⟨ok, HOK⟩ : ∃ ok, Hid (stepOk (G ++ [t]) 3 a b n = ok) := ⟨_, rfl⟩
  obtain ⟨sz, HSZ⟩ : ∃ sz, Hid (stepSize (G ++ [t]) 3 = sz) := ⟨_, rfl⟩
  obtain ⟨W, HW⟩ : ∃ W, Hid (stepWord (G ++ [t]) 3 a = W) := ⟨_, rfl⟩
  obtain ⟨r, HR⟩ : ∃ r, Hid (stepRead (G ++ [t]) 3 a n = r) := ⟨_, rfl⟩
  obtain ⟨rl, HRL⟩ : ∃ rl, Hid (r.length = rl) := ⟨_, rfl⟩
  rw [HW.out] at hWl hWd
  rw [HR.out, HRL.out] at RA RB
  rw [HOK.out, HSZ.out, HW.out, HR.out, HRL.out]
  go_enter Safg.func19, Safg.ntmps19
  go_upto_region 1 with (first | (refine wpList_box_agg rfl 49 (.tmp 1) rfl (opC 3 a b n f) rfl ?_; intro w1 g5 hg5 k5 b1) | (refine wpList_box_agg rfl 52 (.tmp 2) rfl _ rfl ?_; intro w2 g6 hg6 k6 b2) | (refine wpList_box_agg rfl 52 (.tmp 3) rfl _ rfl ?_; intro w3 g7 hg7 k7 b3))
  have k6' := k6.below b3 k6.lt
  have k5' := (k5.below b2 k5.lt).below b3 (Nat.lt_of_lt_of_le k5.lt b2.size)
  have b03 : Below w.heap.size w w3 := (b1.trans (b2.mono b1.size)).trans (b3.mono (Nat.le_trans b1.size b2.size))
  have HS := same_true w3 ok sz W r ra rb rl hWl hWd (RA.below b03) (RB.below b03) hnn
  have hlT := hw.lt
  have hs01 := b1.size
  have hs02 := b2.size
  clear k5 k6 b1 b2 b3 RA RB hnn
  go_upto_region 3 with (first | (refine wpList_load_agg rfl 52 (.tmp 6) rfl g6 rfl _ k6' _ Safg.underlying52 (size52c hWl) ?_) | (refine wpList_load_agg rfl 52 (.tmp 7) rfl g7 rfl _ k7 _ Safg.underlying52 (size52c hWl) ?_) | (go_at_call 62; refine HS.mono ?_; rintro e w4 ⟨rfl, b4⟩; have b04 : Below w.heap.size w w4 := b03.trans (b4.mono b03.size); have HCK := aCheck w4 B T bv buf base F' (har.below b04)) | (go_at_call 61; refine HCK.mono ?_; rintro e w5 ⟨rfl, s5⟩))
  have b05 : Below w.heap.size w w5 := b04.trans (s5.below _)
  have j5 := s5.blk (k5'.below b4 k5'.lt)
  have j6 := s5.blk (k6'.below b4 k6'.lt)
  have hw5 := hw.below b05
  have hlT5 := hw5.lt
  have hsz5 := b05.size
  have c50 := j5.get (j := 0) (v := .int .u8 ((3 : Nat) : Int)) rfl
  have c60 := j6.get (ansC_0 _ _ _ _)
  have BB : Hid (Below w.heap.size w w5) := b05
  clear HS HCK b03 b04 b05 b4 s5 k5' k6' k7
  obtain ⟨ws, x, rfl, hrel2, hx⟩ := hrel.last
  have hlr := hrel2.len
  obtain ⟨gw, cap, rfl, cw, fw, hgT, hcap, hcm, hgl, hBg, _⟩ := hw5.top
  have c11 := hw5.c11
  have HWD : Hid (Wd B T w5 (.slice (some ⟨gw, 0, none⟩) (ws.length + 1) cap) (ws ++ [x])) := hw5
  have hgw0 := (hw.vec.block_lt (g := gw) rfl).1
  have hgw6 : gw ≠ g6 := by omega
  have hgw5 : gw ≠ g5 := by omega
  have hnb6 : g6 ∉ (Value.slice (some ⟨gw, 0, none⟩) (ws.length + 1) cap).ownBlock.toList := by simp [Value.ownBlock]; omega
  have HREL : Hid (WRel ws G ∧ 32 * x = t.length) := ⟨hrel2, hx⟩
  have tl := hF.low t (by simp)
  have few := hF.few
  have hk7 : ws.length ≤ 6 := by simp at few; omega
  unfold u32V at cw
  have HMM : Hid (G.length = ws.length) := hlr.symm
  have hx1 : x ≤ 22415 := by omega
  have hml : maxLen = 9223372036854775807 := rfl
  clear hw5 hw hrel hrel2 hlr few hx
  have c61 := j6.get (ansC_1 _ _ _ _)
  obtain rfl : sz = 32 * x := by rw [← HSZ.out, HREL.out.2]; show (topF (G ++ [t])).length = _; rw [topF_app]
  have t3 : (((32 * x : Nat) : Int) == 32 * (x : Int)) = true := by simp
  generalize ws.length = K at *
  go_wp2
  go_ret
  exact ⟨rfl, _, (HREL.out.1.push HREL.out.2).same (step_len (by decide)), (HWD.out.grew (Below.refl _ _)).after hlT BB.out⟩


set_option maxRecDepth 100000 in
set_option maxHeartbeats 4000000 in
theorem judge_10_none (w : World) (B T : Nat) (bv : Value) (buf base : List Nat) (F' : List (List Nat)) (har : ArF B T w bv buf base F') (wv : Value) (words : List Nat) (hw : Wd B T w wv words) (hrel : WRel words []) (hF : FOk []) (hBw : B ≤ w.heap.size)
    (a b n f : Nat) (ha : a < 4294967296) (hb : b < 4294967296) (hn : n < 4294967296) (ra rb : Option Addr) (m m' : Nat) (hra : RdNew m w ra (stepRead [] 10 a n)) (hrb : RdNew m' w rb (stepRead [] 10 a n)) :
    Calls Safg.prog 19 #[.pointer (some ⟨T, 0, none⟩), .agg (opC 10 a b n f).toArray, .agg (ansC (stepOk [] 10 a b n) (stepSize [] 10) (stepWord [] 10 a) (.slice ra (stepRead [] 10 a n).length (stepRead [] 10 a n).length)).toArray, .agg (ansC (stepOk [] 10 a b n) (stepSize [] 10) (stepWord [] 10 a) (.slice rb (stepRead [] 10 a n).length (stepRead [] 10 a n).length)).toArray] w fun e w' =>
      e = .returned (.bool true) ∧ ∃ words', WRel words' (stepF [] 10 a b n f) ∧ WPost B T w w' wv words' := by
  have hWl : (stepWord [] 10 a).length = 32 := stepWord_length
  have hWd : D.Dig (stepWord [] 10 a) := stepWord_dig hF
  have hnn := hra.cases hrb
  have RA := hra.rd
  have RB := hrb.rd
  have HRA : Hid (RdNew m w ra (stepRead [] 10 a n)) := hra
  clear hra hrb
  obtain ⟨ok, HOK⟩ : ∃ ok, Hid (stepOk [] 10 a b n = ok) := ⟨_, rfl⟩
  obtain ⟨sz, HSZ⟩ : ∃ sz, Hid (stepSize [] 10 = sz) := ⟨_, rfl⟩
  obtain ⟨W, HW⟩ : ∃ W, Hid (stepWord [] 10 a = W) := ⟨_, rfl⟩
  obtain ⟨r, HR⟩ : ∃ r, Hid (stepRead [] 10 a n = r) := ⟨_, rfl⟩
  obtain ⟨rl, HRL⟩ : ∃ rl, Hid (r.length = rl) := ⟨_, rfl⟩
  rw [HW.out] at hWl hWd
  rw [HR.out, HRL.out] at RA RB
  rw [HOK.out, HSZ.out, HW.out, HR.out, HRL.out]
  go_enter Safg.func19, Safg.ntmps19
  go_upto_region 1 with (first | (refine wpList_box_agg rfl 49 (.tmp 1) rfl (opC 10 a b n f) rfl ?_; intro w1 g5 hg5 k5 b1) | (refine wpList_box_agg rfl 52 (.tmp 2) rfl _ rfl ?_; intro w2 g6 hg6 k6 b2) | (refine wpList_box_agg rfl 52 (.tmp 3) rfl _ rfl ?_; intro w3 g7 hg7 k7 b3))
  have k6' := k6.below b3 k6.lt
  have k5' := (k5.below b2 k5.lt).below b3 (Nat.lt_of_lt_of_le k5.lt b2.size)
  have b03 : Below w.heap.size w w3 := (b1.trans (b2.mono b1.size)).trans (b3.mono (Nat.le_trans b1.size b2.size))
  have HS := same_true w3 ok sz W r ra rb rl hWl hWd (RA.below b03) (RB.below b03) hnn
  have hlT := hw.lt
  have hs01 := b1.size
  have hs02 := b2.size
  clear k5 k6 b1 b2 b3 RA RB hnn
  go_upto_region 3 with (first | (refine wpList_load_agg rfl 52 (.tmp 6) rfl g6 rfl _ k6' _ Safg.underlying52 (size52c hWl) ?_) | (refine wpList_load_agg rfl 52 (.tmp 7) rfl g7 rfl _ k7 _ Safg.underlying52 (size52c hWl) ?_) | (go_at_call 62; refine HS.mono ?_; rintro e w4 ⟨rfl, b4⟩; have b04 : Below w.heap.size w w4 := b03.trans (b4.mono b03.size); have HCK := aCheck w4 B T bv buf base F' (har.below b04)) | (go_at_call 61; refine HCK.mono ?_; rintro e w5 ⟨rfl, s5⟩))
  have b05 : Below w.heap.size w w5 := b04.trans (s5.below _)
  have j5 := s5.blk (k5'.below b4 k5'.lt)
  have j6 := s5.blk (k6'.below b4 k6'.lt)
  have hw5 := hw.below b05
  have hlT5 := hw5.lt
  have hsz5 := b05.size
  have c50 := j5.get (j := 0) (v := .int .u8 ((10 : Nat) : Int)) rfl
  have c60 := j6.get (ansC_0 _ _ _ _)
  have BB : Hid (Below w.heap.size w w5) := b05
  clear HS HCK b03 b04 b05 b4 s5 k5' k6' k7
  have hwn : words = [] := List.eq_nil_of_length_eq_zero hrel.len
  subst hwn
  obtain ⟨fa, fc, rfl, _, _⟩ := hw5.len_of
  have c11 := hw5.c11
  have HWD : Hid (Wd B T w5 (.slice fa 0 fc) []) := hw5
  have hnb6 : g6 ∉ (Value.slice fa 0 fc).ownBlock.toList := by
    intro hm
    simp only [Option.mem_toList] at hm
    have := (hw.vec.block_lt hm).1
    omega
  clear hw5 hw hrel
  obtain rfl : ok = true := HOK.out.symm
  go_wp2
  go_ret
  exact ⟨rfl, [], WRel.nil, (HWD.out.grew (Below.refl _ _)).after hlT BB.out⟩


set_option maxRecDepth 100000 in
set_option maxHeartbeats 4000000 in
theorem judge_10_some (w : World) (B T : Nat) (bv : Value) (buf base : List Nat) (G : List (List Nat)) (t : List Nat) (F' : List (List Nat)) (har : ArF B T w bv buf base F') (wv : Value) (words : List Nat) (hw : Wd B T w wv words) (hrel : WRel words (G ++ [t])) (hF : FOk (G ++ [t])) (hBw : B ≤ w.heap.size)
    (a b n f : Nat) (ha : a < 4294967296) (hb : b < 4294967296) (hn : n < 4294967296) (ra rb : Option Addr) (m m' : Nat) (hra : RdNew m w ra (stepRead (G ++ [t]) 10 a n)) (hrb : RdNew m' w rb (stepRead (G ++ [t]) 10 a n)) :
    Calls Safg.prog 19 #[.pointer (some ⟨T, 0, none⟩), .agg (opC 10 a b n f).toArray, .agg (ansC (stepOk (G ++ [t]) 10 a b n) (stepSize (G ++ [t]) 10) (stepWord (G ++ [t]) 10 a) (.slice ra (stepRead (G ++ [t]) 10 a n).length (stepRead (G ++ [t]) 10 a n).length)).toArray, .agg (ansC (stepOk (G ++ [t]) 10 a b n) (stepSize (G ++ [t]) 10) (stepWord (G ++ [t]) 10 a) (.slice rb (stepRead (G ++ [t]) 10 a n).length (stepRead (G ++ [t]) 10 a n).length)).toArray] w fun e w' =>
      e = .returned (.bool true) ∧ ∃ words', WRel words' (stepF (G ++ [t]) 10 a b n f) ∧ WPost B T w w' wv words' := by
  have hWl : (stepWord (G ++ [t]) 10 a).length = 32 := stepWord_length
  have hWd : D.Dig (stepWord (G ++ [t]) 10 a) := stepWord_dig hF
  have hnn := hra.cases hrb
  have RA := hra.rd
  have RB := hrb.rd
  have HRA : Hid (RdNew m w ra (stepRead (G ++ [t]) 10 a n)) := hra
  clear hra hrb
  obtain ⟨ok, HOK⟩ : ∃ ok, Hid (stepOk (G ++ [t]) 10 a b n = ok) := ⟨_, rfl⟩
  obtain ⟨sz, HSZ⟩ : ∃ sz, Hid (stepSize (G ++ [t]) 10 = sz) := ⟨_, rfl⟩
  obtain ⟨W, HW⟩ : ∃ W, Hid (stepWord (G ++ [t]) 10 a = W) := ⟨_, rfl⟩
  obtain ⟨r, HR⟩ : ∃ r, Hid (stepRead (G ++ [t]) 10 a n = r) := ⟨_, rfl⟩
  obtain ⟨rl, HRL⟩ : ∃ rl, Hid (r.length = rl) := ⟨_, rfl⟩
  rw [HW.out] at hWl hWd
  rw [HR.out, HRL.out] at RA RB
  rw [HOK.out, HSZ.out, HW.out, HR.out, HRL.out]
  go_enter Safg.func19, Safg.ntmps19
  go_upto_region 1 with (first | (refine wpList_box_agg rfl 49 (.tmp 1) rfl (opC 10 a b n f) rfl ?_; intro w1 g5 hg5 k5 b1) | (refine wpList_box_agg rfl 52 (.tmp 2) rfl _ rfl ?_; intro w2 g6 hg6 k6 b2) | (refine wpList_box_agg rfl 52 (.tmp 3) rfl _ rfl ?_; intro w3 g7 hg7 k7 b3))
  have k6' := k6.below b3 k6.lt
  have k5' := (k5.below b2 k5.lt).below b3 (Nat.lt_of_lt_of_le k5.lt b2.size)
  have b03 : Below w.heap.size w w3 := (b1.trans (b2.mono b1.size)).trans (b3.mono (Nat.le_trans b1.size b2.size))
  have HS := same_true w3 ok sz W r ra rb rl hWl hWd (RA.below b03) (RB.below b03) hnn
  have hlT := hw.lt
  have hs01 := b1.size
  have hs02 := b2.size
  clear k5 k6 b1 b2 b3 RA RB hnn
  go_upto_region 3 with (first | (refine wpList_load_agg rfl 52 (.tmp 6) rfl g6 rfl _ k6' _ Safg.underlying52 (size52c hWl) ?_) | (refine wpList_load_agg rfl 52 (.tmp 7) rfl g7 rfl _ k7 _ Safg.underlying52 (size52c hWl) ?_) | (go_at_call 62; refine HS.mono ?_; rintro e w4 ⟨rfl, b4⟩; have b04 : Below w.heap.size w w4 := b03.trans (b4.mono b03.size); have HCK := aCheck w4 B T bv buf base F' (har.below b04)) | (go_at_call 61; refine HCK.mono ?_; rintro e w5 ⟨rfl, s5⟩))
  have b05 : Below w.heap.size w w5 := b04.trans (s5.below _)
  have j5 := s5.blk (k5'.below b4 k5'.lt)
  have j6 := s5.blk (k6'.below b4 k6'.lt)
  have hw5 := hw.below b05
  have hlT5 := hw5.lt
  have hsz5 := b05.size
  have c50 := j5.get (j := 0) (v := .int .u8 ((10 : Nat) : Int)) rfl
  have c60 := j6.get (ansC_0 _ _ _ _)
  have BB : Hid (Below w.heap.size w w5) := b05
  clear HS HCK b03 b04 b05 b4 s5 k5' k6' k7
  obtain ⟨ws, x, rfl, hrel2, hx⟩ := hrel.last
  have hlr := hrel2.len
  obtain ⟨gw, cap, rfl, cw, fw, hgT, hcap, hcm, hgl, hBg, _⟩ := hw5.top
  have c11 := hw5.c11
  have HWD : Hid (Wd B T w5 (.slice (some ⟨gw, 0, none⟩) (ws.length + 1) cap) (ws ++ [x])) := hw5
  have hgw0 := (hw.vec.block_lt (g := gw) rfl).1
  have hgw6 : gw ≠ g6 := by omega
  have hgw5 : gw ≠ g5 := by omega
  have hnb6 : g6 ∉ (Value.slice (some ⟨gw, 0, none⟩) (ws.length + 1) cap).ownBlock.toList := by simp [Value.ownBlock]; omega
  have HREL : Hid (WRel ws G ∧ 32 * x = t.length) := ⟨hrel2, hx⟩
  have tl := hF.low t (by simp)
  have few := hF.few
  have hk7 : ws.length ≤ 6 := by simp at few; omega
  unfold u32V at cw
  have HMM : Hid (G.length = ws.length) := hlr.symm
  have hx1 : x ≤ 22415 := by omega
  have hml : maxLen = 9223372036854775807 := rfl
  clear hw5 hw hrel hrel2 hlr few hx
  obtain rfl : ok = true := HOK.out.symm
  generalize ws.length = K at *
  go_wp2
  go_ret
  exact ⟨rfl, _, (HREL.out.1.push HREL.out.2).same (step_len (by decide)), (HWD.out.grew (Below.refl _ _)).after hlT BB.out⟩


set_option maxRecDepth 100000 in
set_option maxHeartbeats 4000000 in
theorem judge_4_none (w : World) (B T : Nat) (bv : Value) (buf base : List Nat) (F' : List (List Nat)) (har : ArF B T w bv buf base F') (wv : Value) (words : List Nat) (hw : Wd B T w wv words) (hrel : WRel words []) (hF : FOk []) (hBw : B ≤ w.heap.size)
    (a b n f : Nat) (ha : a < 4294967296) (hb : b < 4294967296) (hn : n < 4294967296) (ra rb : Option Addr) (m m' : Nat) (hra : RdNew m w ra (stepRead [] 4 a n)) (hrb : RdNew m' w rb (stepRead [] 4 a n)) :
    Calls Safg.prog 19 #[.pointer (some ⟨T, 0, none⟩), .agg (opC 4 a b n f).toArray, .agg (ansC (stepOk [] 4 a b n) (stepSize [] 4) (stepWord [] 4 a) (.slice ra (stepRead [] 4 a n).length (stepRead [] 4 a n).length)).toArray, .agg (ansC (stepOk [] 4 a b n) (stepSize [] 4) (stepWord [] 4 a) (.slice rb (stepRead [] 4 a n).length (stepRead [] 4 a n).length)).toArray] w fun e w' =>
      e = .returned (.bool true) ∧ ∃ words', WRel words' (stepF [] 4 a b n f) ∧ WPost B T w w' wv words' := by
  have hWl : (stepWord [] 4 a).length = 32 := stepWord_length
  have hWd : D.Dig (stepWord [] 4 a) := stepWord_dig hF
  have hnn := hra.cases hrb
  have RA := hra.rd
  have RB := hrb.rd
  have HRA : Hid (RdNew m w ra (stepRead [] 4 a n)) := hra
  clear hra hrb
  obtain ⟨ok, HOK⟩ : ∃ ok, Hid (stepOk [] 4 a b n = ok) := ⟨_, rfl⟩
  obtain ⟨sz, HSZ⟩ : ∃ sz, Hid (stepSize [] 4 = sz) := ⟨_, rfl⟩
  obtain ⟨W, HW⟩ : ∃ W, Hid (stepWord [] 4 a = W) := ⟨_, rfl⟩
  obtain ⟨r, HR⟩ : ∃ r, Hid (stepRead [] 4 a n = r) := ⟨_, rfl⟩
  obtain ⟨rl, HRL⟩ : ∃ rl, Hid (r.length = rl) := ⟨_, rfl⟩
  rw [HW.out] at hWl hWd
  rw [HR.out, HRL.out] at RA RB
  rw [HOK.out, HSZ.out, HW.out, HR.out, HRL.out]
  go_enter Safg.func19, Safg.ntmps19
  go_upto_region 1 with (first | (refine wpList_box_agg rfl 49 (.tmp 1) rfl (opC 4 a b n f) rfl ?_; intro w1 g5 hg5 k5 b1) | (refine wpList_box_agg rfl 52 (.tmp 2) rfl _ rfl ?_; intro w2 g6 hg6 k6 b2) | (refine wpList_box_agg rfl 52 (.tmp 3) rfl _ rfl ?_; intro w3 g7 hg7 k7 b3))
  have k6' := k6.below b3 k6.lt
  have k5' := (k5.below b2 k5.lt).below b3 (Nat.lt_of_lt_of_le k5.lt b2.size)
  have b03 : Below w.heap.size w w3 := (b1.trans (b2.mono b1.size)).trans (b3.mono (Nat.le_trans b1.size b2.size))
  have HS := same_true w3 ok sz W r ra rb rl hWl hWd (RA.below b03) (RB.below b03) hnn
  have hlT := hw.lt
  have hs01 := b1.size
  have hs02 := b2.size
  clear k5 k6 b1 b2 b3 RA RB hnn
  go_upto_region 3 with (first | (refine wpList_load_agg rfl 52 (.tmp 6) rfl g6 rfl _ k6' _ Safg.underlying52 (size52c hWl) ?_) | (refine wpList_load_agg rfl 52 (.tmp 7) rfl g7 rfl _ k7 _ Safg.underlying52 (size52c hWl) ?_) | (go_at_call 62; refine HS.mono ?_; rintro e w4 ⟨rfl, b4⟩; have b04 : Below w.heap.size w w4 := b03.trans (b4.mono b03.size); have HCK := aCheck w4 B T bv buf base F' (har.below b04)) | (go_at_call 61; refine HCK.mono ?_; rintro e w5 ⟨rfl, s5⟩))
  have b05 : Below w.heap.size w w5 := b04.trans (s5.below _)
  have j5 := s5.blk (k5'.below b4 k5'.lt)
  have j6 := s5.blk (k6'.below b4 k6'.lt)
  have hw5 := hw.below b05
  have hlT5 := hw5.lt
  have hsz5 := b05.size
  have c50 := j5.get (j := 0) (v := .int .u8 ((4 : Nat) : Int)) rfl
  have c60 := j6.get (ansC_0 _ _ _ _)
  have BB : Hid (Below w.heap.size w w5) := b05
  clear HS HCK b03 b04 b05 b4 s5 k5' k6' k7
  have hwn : words = [] := List.eq_nil_of_length_eq_zero hrel.len
  subst hwn
  obtain ⟨fa, fc, rfl, _, _⟩ := hw5.len_of
  have c11 := hw5.c11
  have HWD : Hid (Wd B T w5 (.slice fa 0 fc) []) := hw5
  have hnb6 : g6 ∉ (Value.slice fa 0 fc).ownBlock.toList := by
    intro hm
    simp only [Option.mem_toList] at hm
    have := (hw.vec.block_lt hm).1
    omega
  clear hw5 hw hrel
  obtain rfl : ok = false := HOK.out.symm
  go_upto_region 26 with fail
  go_quiet (fail)
  go_wp2_with fail
  go_ret
  exact ⟨rfl, [], WRel.nil.same (step_len (by decide)), (HWD.out.grew ((Same.drewN _ _).below _)).after hlT BB.out⟩


set_option maxRecDepth 100000 in
set_option maxHeartbeats 4000000 in
theorem judge_4_some (w : World) (B T : Nat) (bv : Value) (buf base : List Nat) (G : List (List Nat)) (t : List Nat) (F' : List (List Nat)) (har : ArF B T w bv buf base F') (wv : Value) (words : List Nat) (hw : Wd B T w wv words) (hrel : WRel words (G ++ [t])) (hF : FOk (G ++ [t])) (hBw : B ≤ w.heap.size)
    (a b n f : Nat) (ha : a < 4294967296) (hb : b < 4294967296) (hn : n < 4294967296) (ra rb : Option Addr) (m m' : Nat) (hra : RdNew m w ra (stepRead (G ++ [t]) 4 a n)) (hrb : RdNew m' w rb (stepRead (G ++ [t]) 4 a n)) :
    Calls Safg.prog 19 #[.pointer (some ⟨T, 0, none⟩), .agg (opC 4 a b n f).toArray, .agg (ansC (stepOk (G ++ [t]) 4 a b n) (stepSize (G ++ [t]) 4) (stepWord (G ++ [t]) 4 a) (.slice ra (stepRead (G ++ [t]) 4 a n).length (stepRead (G ++ [t]) 4 a n).length)).toArray, .agg (ansC (stepOk (G ++ [t]) 4 a b n) (stepSize (G ++ [t]) 4) (stepWord (G ++ [t]) 4 a) (.slice rb (stepRead (G ++ [t]) 4 a n).length (stepRead (G ++ [t]) 4 a n).length)).toArray] w fun e w' =>
      e = .returned (.bool true) ∧ ∃ words', WRel words' (stepF (G ++ [t]) 4 a b n f) ∧ WPost B T w w' wv words' := by
  have hWl : (stepWord (G ++ [t]) 4 a).length = 32 := stepWord_length
  have hWd : D.Dig (stepWord (G ++ [t]) 4 a) := stepWord_dig hF
  have hnn := hra.cases hrb
  have RA := hra.rd
  have RB := hrb.rd
  have HRA : Hid (RdNew m w ra (stepRead (G ++ [t]) 4 a n)) := hra
  clear hra hrb
  obtain ⟨ok, HOK⟩ : ∃ ok, Hid (stepOk (G ++ [t]) 4 a b n = ok) := ⟨_, rfl⟩
  obtain ⟨sz, HSZ⟩ : ∃ sz, Hid (stepSize (G ++ [t]) 4 = sz) := ⟨_, rfl⟩
  obtain ⟨W, HW⟩ : ∃ W, Hid (stepWord (G ++ [t]) 4 a = W) := ⟨_, rfl⟩
  obtain ⟨r, HR⟩ : ∃ r, Hid (stepRead (G ++ [t]) 4 a n = r) := ⟨_, rfl⟩
  obtain ⟨rl, HRL⟩ : ∃ rl, Hid (r.length = rl) := ⟨_, rfl⟩
  rw [HW.out] at hWl hWd
  rw [HR.out, HRL.out] at RA RB
  rw [HOK.out, HSZ.out, HW.out, HR.out, HRL.out]
  go_enter Safg.func19, Safg.ntmps19
  go_upto_region 1 with (first | (refine wpList_box_agg rfl 49 (.tmp 1) rfl (opC 4 a b n f) rfl ?_; intro w1 g5 hg5 k5 b1) | (refine wpList_box_agg rfl 52 (.tmp 2) rfl _ rfl ?_; intro w2 g6 hg6 k6 b2) | (refine wpList_box_agg rfl 52 (.tmp 3) rfl _ rfl ?_; intro w3 g7 hg7 k7 b3))
  have k6' := k6.below b3 k6.lt
  have k5' := (k5.below b2 k5.lt).below b3 (Nat.lt_of_lt_of_le k5.lt b2.size)
  have b03 : Below w.heap.size w w3 := (b1.trans (b2.mono b1.size)).trans (b3.mono (Nat.le_trans b1.size b2.size))
  have HS := same_true w3 ok sz W r ra rb rl hWl hWd (RA.below b03) (RB.below b03) hnn
  have hlT := hw.lt
  have hs01 := b1.size
  have hs02 := b2.size
  clear k5 k6 b1 b2 b3 RA RB hnn
  go_upto_region 3 with (first | (refine wpList_load_agg rfl 52 (.tmp 6) rfl g6 rfl _ k6' _ Safg.underlying52 (size52c hWl) ?_) | (refine wpList_load_agg rfl 52 (.tmp 7) rfl g7 rfl _ k7 _ Safg.underlying52 (size52c hWl) ?_) | (go_at_call 62; refine HS.mono ?_; rintro e w4 ⟨rfl, b4⟩; have b04 : Below w.heap.size w w4 := b03.trans (b4.mono b03.size); have HCK := aCheck w4 B T bv buf base F' (har.below b04)) | (go_at_call 61; refine HCK.mono ?_; rintro e w5 ⟨rfl, s5⟩))
  have b05 : Below w.heap.size w w5 := b04.trans (s5.below _)
  have j5 := s5.blk (k5'.below b4 k5'.lt)
  have j6 := s5.blk (k6'.below b4 k6'.lt)
  have hw5 := hw.below b05
  have hlT5 := hw5.lt
  have hsz5 := b05.size
  have c50 := j5.get (j := 0) (v := .int .u8 ((4 : Nat) : Int)) rfl
  have c60 := j6.get (ansC_0 _ _ _ _)
  have BB : Hid (Below w.heap.size w w5) := b05
  clear HS HCK b03 b04 b05 b4 s5 k5' k6' k7
  obtain ⟨ws, x, rfl, hrel2, hx⟩ := hrel.last
  have hlr := hrel2.len
  obtain ⟨gw, cap, rfl, cw, fw, hgT, hcap, hcm, hgl, hBg, _⟩ := hw5.top
  have c11 := hw5.c11
  have HWD : Hid (Wd B T w5 (.slice (some ⟨gw, 0, none⟩) (ws.length + 1) cap) (ws ++ [x])) := hw5
  have hgw0 := (hw.vec.block_lt (g := gw) rfl).1
  have hgw6 : gw ≠ g6 := by omega
  have hgw5 : gw ≠ g5 := by omega
  have hnb6 : g6 ∉ (Value.slice (some ⟨gw, 0, none⟩) (ws.length + 1) cap).ownBlock.toList := by simp [Value.ownBlock]; omega
  have HREL : Hid (WRel ws G ∧ 32 * x = t.length) := ⟨hrel2, hx⟩
  have tl := hF.low t (by simp)
  have few := hF.few
  have hk7 : ws.length ≤ 6 := by simp at few; omega
  unfold u32V at cw
  have HMM : Hid (G.length = ws.length) := hlr.symm
  have hx1 : x ≤ 22415 := by omega
  have hml : maxLen = 9223372036854775807 := rfl
  clear hw5 hw hrel hrel2 hlr few hx
  have hreach : reachB 4 a b n (32 * x) = ok := by
    rw [← HOK.out, HREL.out.2]
    show _ = stepOk (G ++ [t]) 4 a b n
    simp only [reachB, stepOk, hasF_app]
  have HREACH : Hid (reachB 4 a b n (32 * x) = ok) := hreach
  have HRC := reaches_any w5.drew 4 a b n f (32 * x) (by decide) ha hb hn (by omega)
  rw [HREACH.out] at HRC
  have c51 := j5.get (j := 1) (v := .int .u32 (a : Int)) rfl
  have c52 := j5.get (j := 2) (v := .int .u32 (b : Int)) rfl
  have c53 := j5.get (j := 3) (v := .int .u32 (n : Int)) rfl
  have c54 := j5.get (j := 4) (v := .int .u8 (f : Int)) rfl
  have hc32 : ((32 * x : Nat) : Int) = 32 * (x : Int) := by omega
  rw [hc32] at HRC
  have HK0 : Hid ((fun w' => w'.cell? ⟨g6, 0, none⟩ = some (.bool ok) ∧ w'.cell? ⟨g5, 0, none⟩ = some (.int .u8 4) ∧ w'.cell? ⟨g5, 1, none⟩ = some (.int .u32 (a : Int)) ∧ w'.cell? ⟨g5, 2, none⟩ = some (.int .u32 (b : Int)) ∧ w'.cell? ⟨g5, 3, none⟩ = some (.int .u32 (n : Int)) ∧ w'.cell? ⟨g5, 4, none⟩ = some (.int .u8 (f : Int))) w5.drew) := ⟨c60, c50, c51, c52, c53, c54⟩
  have HKB : Hid (∀ w', Below w5.heap.size w5 w' → (fun w' => w'.cell? ⟨g6, 0, none⟩ = some (.bool ok) ∧ w'.cell? ⟨g5, 0, none⟩ = some (.int .u8 4) ∧ w'.cell? ⟨g5, 1, none⟩ = some (.int .u32 (a : Int)) ∧ w'.cell? ⟨g5, 2, none⟩ = some (.int .u32 (b : Int)) ∧ w'.cell? ⟨g5, 3, none⟩ = some (.int .u32 (n : Int)) ∧ w'.cell? ⟨g5, 4, none⟩ = some (.int .u8 (f : Int))) w') := fun w' b => by
    have q5 := j5.below b j5.lt
    have q6 := j6.below b j6.lt
    exact ⟨q6.get (ansC_0 _ _ _ _), q5.get (j := 0) rfl, q5.get (j := 1) rfl, q5.get (j := 2) rfl, q5.get (j := 3) rfl, q5.get (j := 4) rfl⟩
  clear hc32 hreach
  generalize ws.length = K at *
  have t26 : decide (0 < (K : Int) + 1) = true := decide_eq_true (by omega)
  go_upto_region 26 with fail
  go_region_held3 (fun w' => w'.cell? ⟨g6, 0, none⟩ = some (.bool ok) ∧ w'.cell? ⟨g5, 0, none⟩ = some (.int .u8 4) ∧ w'.cell? ⟨g5, 1, none⟩ = some (.int .u32 (a : Int)) ∧ w'.cell? ⟨g5, 2, none⟩ = some (.int .u32 (b : Int)) ∧ w'.cell? ⟨g5, 3, none⟩ = some (.int .u32 (n : Int)) ∧ w'.cell? ⟨g5, 4, none⟩ = some (.int .u8 (f : Int)))
    (first | exact HK0.out | exact HKB.out _ b6)
    (first | (go_at_call 64; refine HRC.mono ?_; rintro e w6 ⟨rfl, b6'⟩; have b6 : Below w5.heap.size w5 w6 := ((Same.drew w5).below _).trans b6'))
  all_goals (
    go_wp2
    go_ret
    exact ⟨by cases ok <;> rfl, _, (HREL.out.1.push HREL.out.2).same (step_len (by decide)), (HWD.out.grew b6).after hlT BB.out⟩)


set_option maxRecDepth 100000 in
set_option maxHeartbeats 4000000 in
theorem judge_5_none (w : World) (B T : Nat) (bv : Value) (buf base : List Nat) (F' : List (List Nat)) (har : ArF B T w bv buf base F') (wv : Value) (words : List Nat) (hw : Wd B T w wv words) (hrel : WRel words []) (hF : FOk []) (hBw : B ≤ w.heap.size)
    (a b n f : Nat) (ha : a < 4294967296) (hb : b < 4294967296) (hn : n < 4294967296) (ra rb : Option Addr) (m m' : Nat) (hra : RdNew m w ra (stepRead [] 5 a n)) (hrb : RdNew m' w rb (stepRead [] 5 a n)) :
    Calls Safg.prog 19 #[.pointer (some ⟨T, 0, none⟩), .agg (opC 5 a b n f).toArray, .agg (ansC (stepOk [] 5 a b n) (stepSize [] 5) (stepWord [] 5 a) (.slice ra (stepRead [] 5 a n).length (stepRead [] 5 a n).length)).toArray, .agg (ansC (stepOk [] 5 a b n) (stepSize [] 5) (stepWord [] 5 a) (.slice rb (stepRead [] 5 a n).length (stepRead [] 5 a n).length)).toArray] w fun e w' =>
      e = .returned (.bool true) ∧ ∃ words', WRel words' (stepF [] 5 a b n f) ∧ WPost B T w w' wv words' := by
  have hWl : (stepWord [] 5 a).length = 32 := stepWord_length
  have hWd : D.Dig (stepWord [] 5 a) := stepWord_dig hF
  have hnn := hra.cases hrb
  have RA := hra.rd
  have RB := hrb.rd
  have HRA : Hid (RdNew m w ra (stepRead [] 5 a n)) := hra
  clear hra hrb
  obtain ⟨ok, HOK⟩ : ∃ ok, Hid (stepOk [] 5 a b n = ok) := ⟨_, rfl⟩
  obtain ⟨sz, HSZ⟩ : ∃ sz, Hid (stepSize [] 5 = sz) := ⟨_, rfl⟩
  obtain ⟨W, HW⟩ : ∃ W, Hid (stepWord [] 5 a = W) := ⟨_, rfl⟩
  obtain ⟨r, HR⟩ : ∃ r, Hid (stepRead [] 5 a n = r) := ⟨_, rfl⟩
  obtain ⟨rl, HRL⟩ : ∃ rl, Hid (r.length = rl) := ⟨_, rfl⟩
  rw [HW.out] at hWl hWd
  rw [HR.out, HRL.out] at RA RB
  rw [HOK.out, HSZ.out, HW.out, HR.out, HRL.out]
  go_enter Safg.func19, Safg.ntmps19
  go_upto_region 1 with (first | (refine wpList_box_agg rfl 49 (.tmp 1) rfl (opC 5 a b n f) rfl ?_; intro w1 g5 hg5 k5 b1) | (refine wpList_box_agg rfl 52 (.tmp 2) rfl _ rfl ?_; intro w2 g6 hg6 k6 b2) | (refine wpList_box_agg rfl 52 (.tmp 3) rfl _ rfl ?_; intro w3 g7 hg7 k7 b3))
  have k6' := k6.below b3 k6.lt
  have k5' := (k5.below b2 k5.lt).below b3 (Nat.lt_of_lt_of_le k5.lt b2.size)
  have b03 : Below w.heap.size w w3 := (b1.trans (b2.mono b1.size)).trans (b3.mono (Nat.le_trans b1.size b2.size))
  have HS := same_true w3 ok sz W r ra rb rl hWl hWd (RA.below b03) (RB.below b03) hnn
  have hlT := hw.lt
  have hs01 := b1.size
  have hs02 := b2.size
  clear k5 k6 b1 b2 b3 RA RB hnn
  go_upto_region 3 with (first | (refine wpList_load_agg rfl 52 (.tmp 6) rfl g6 rfl _ k6' _ Safg.underlying52 (size52c hWl) ?_) | (refine wpList_load_agg rfl 52 (.tmp 7) rfl g7 rfl _ k7 _ Safg.underlying52 (size52c hWl) ?_) | (go_at_call 62; refine HS.mono ?_; rintro e w4 ⟨rfl, b4⟩; have b04 : Below w.heap.size w w4 := b03.trans (b4.mono b03.size); have HCK := aCheck w4 B T bv buf base F' (har.below b04)) | (go_at_call 61; refine HCK.mono ?_; rintro e w5 ⟨rfl, s5⟩))
  have b05 : Below w.heap.size w w5 := b04.trans (s5.below _)
  have j5 := s5.blk (k5'.below b4 k5'.lt)
  have j6 := s5.blk (k6'.below b4 k6'.lt)
  have hw5 := hw.below b05
  have hlT5 := hw5.lt
  have hsz5 := b05.size
  have c50 := j5.get (j := 0) (v := .int .u8 ((5 : Nat) : Int)) rfl
  have c60 := j6.get (ansC_0 _ _ _ _)
  have BB : Hid (Below w.heap.size w w5) := b05
  clear HS HCK b03 b04 b05 b4 s5 k5' k6' k7
  have hwn : words = [] := List.eq_nil_of_length_eq_zero hrel.len
  subst hwn
  obtain ⟨fa, fc, rfl, _, _⟩ := hw5.len_of
  have c11 := hw5.c11
  have HWD : Hid (Wd B T w5 (.slice fa 0 fc) []) := hw5
  have hnb6 : g6 ∉ (Value.slice fa 0 fc).ownBlock.toList := by
    intro hm
    simp only [Option.mem_toList] at hm
    have := (hw.vec.block_lt hm).1
    omega
  clear hw5 hw hrel
  obtain rfl : ok = false := HOK.out.symm
  go_upto_region 26 with fail
  go_quiet (fail)
  go_wp2_with fail
  go_ret
  exact ⟨rfl, [], WRel.nil.same (step_len (by decide)), (HWD.out.grew ((Same.drewN _ _).below _)).after hlT BB.out⟩


set_option maxRecDepth 100000 in
set_option maxHeartbeats 4000000 in
theorem judge_5_some (w : World) (B T : Nat) (bv : Value) (buf base : List Nat) (G : List (List Nat)) (t : List Nat) (F' : List (List Nat)) (har : ArF B T w bv buf base F') (wv : Value) (words : List Nat) (hw : Wd B T w wv words) (hrel : WRel words (G ++ [t])) (hF : FOk (G ++ [t])) (hBw : B ≤ w.heap.size)
    (a b n f : Nat) (ha : a < 4294967296) (hb : b < 4294967296) (hn : n < 4294967296) (ra rb : Option Addr) (m m' : Nat) (hra : RdNew m w ra (stepRead (G ++ [t]) 5 a n)) (hrb : RdNew m' w rb (stepRead (G ++ [t]) 5 a n)) :
    Calls Safg.prog 19 #[.pointer (some ⟨T, 0, none⟩), .agg (opC 5 a b n f).toArray, .agg (ansC (stepOk (G ++ [t]) 5 a b n) (stepSize (G ++ [t]) 5) (stepWord (G ++ [t]) 5 a) (.slice ra (stepRead (G ++ [t]) 5 a n).length (stepRead (G ++ [t]) 5 a n).length)).toArray, .agg (ansC (stepOk (G ++ [t]) 5 a b n) (stepSize (G ++ [t]) 5) (stepWord (G ++ [t]) 5 a) (.slice rb (stepRead (G ++ [t]) 5 a n).length (stepRead (G ++ [t]) 5 a n).length)).toArray] w fun e w' =>
      e = .returned (.bool true) ∧ ∃ words', WRel words' (stepF (G ++ [t]) 5 a b n f) ∧ WPost B T w w' wv words' := by
  have hWl : (stepWord (G ++ [t]) 5 a).length = 32 := stepWord_length
  have hWd : D.Dig (stepWord (G ++ [t]) 5 a) := stepWord_dig hF
  have hnn := hra.cases hrb
  have RA := hra.rd
  have RB := hrb.rd
  have HRA : Hid (RdNew m w ra (stepRead (G ++ [t]) 5 a n)) := hra
  clear hra hrb
  obtain ⟨ok, HOK⟩ : ∃ ok, Hid (stepOk (G ++ [t]) 5 a b n = ok) := ⟨_, rfl⟩
  obtain ⟨sz, HSZ⟩ : ∃ sz, Hid (stepSize (G ++ [t]) 5 = sz) := ⟨_, rfl⟩
  obtain ⟨W, HW⟩ : ∃ W, Hid (stepWord (G ++ [t]) 5 a = W) := ⟨_, rfl⟩
  obtain ⟨r, HR⟩ : ∃ r, Hid (stepRead (G ++ [t]) 5 a n = r) := ⟨_, rfl⟩
  obtain ⟨rl, HRL⟩ : ∃ rl, Hid (r.length = rl) := ⟨_, rfl⟩
  rw [HW.out] at hWl hWd
  rw [HR.out, HRL.out] at RA RB
  rw [HOK.out, HSZ.out, HW.out, HR.out, HRL.out]
  go_enter Safg.func19, Safg.ntmps19
  go_upto_region 1 with (first | (refine wpList_box_agg rfl 49 (.tmp 1) rfl (opC 5 a b n f) rfl ?_; intro w1 g5 hg5 k5 b1) | (refine wpList_box_agg rfl 52 (.tmp 2) rfl _ rfl ?_; intro w2 g6 hg6 k6 b2) | (refine wpList_box_agg rfl 52 (.tmp 3) rfl _ rfl ?_; intro w3 g7 hg7 k7 b3))
  have k6' := k6.below b3 k6.lt
  have k5' := (k5.below b2 k5.lt).below b3 (Nat.lt_of_lt_of_le k5.lt b2.size)
  have b03 : Below w.heap.size w w3 := (b1.trans (b2.mono b1.size)).trans (b3.mono (Nat.le_trans b1.size b2.size))
  have HS := same_true w3 ok sz W r ra rb rl hWl hWd (RA.below b03) (RB.below b03) hnn
  have hlT := hw.lt
  have hs01 := b1.size
  have hs02 := b2.size
  clear k5 k6 b1 b2 b3 RA RB hnn
  go_upto_region 3 with (first | (refine wpList_load_agg rfl 52 (.tmp 6) rfl g6 rfl _ k6' _ Safg.underlying52 (size52c hWl) ?_) | (refine wpList_load_agg rfl 52 (.tmp 7) rfl g7 rfl _ k7 _ Safg.underlying52 (size52c hWl) ?_) | (go_at_call 62; refine HS.mono ?_; rintro e w4 ⟨rfl, b4⟩; have b04 : Below w.heap.size w w4 := b03.trans (b4.mono b03.size); have HCK := aCheck w4 B T bv buf base F' (har.below b04)) | (go_at_call 61; refine HCK.mono ?_; rintro e w5 ⟨rfl, s5⟩))
  have b05 : Below w.heap.size w w5 := b04.trans (s5.below _)
  have j5 := s5.blk (k5'.below b4 k5'.lt)
  have j6 := s5.blk (k6'.below b4 k6'.lt)
  have hw5 := hw.below b05
  have hlT5 := hw5.lt
  have hsz5 := b05.size
  have c50 := j5.get (j := 0) (v := .int .u8 ((5 : Nat) : Int)) rfl
  have c60 := j6.get (ansC_0 _ _ _ _)
  have BB : Hid (Below w.heap.size w w5) := b05
  clear HS HCK b03 b04 b05 b4 s5 k5' k6' k7
  obtain ⟨ws, x, rfl, hrel2, hx⟩ := hrel.last
  have hlr := hrel2.len
  obtain ⟨gw, cap, rfl, cw, fw, hgT, hcap, hcm, hgl, hBg, _⟩ := hw5.top
  have c11 := hw5.c11
  have HWD : Hid (Wd B T w5 (.slice (some ⟨gw, 0, none⟩) (ws.length + 1) cap) (ws ++ [x])) := hw5
  have hgw0 := (hw.vec.block_lt (g := gw) rfl).1
  have hgw6 : gw ≠ g6 := by omega
  have hgw5 : gw ≠ g5 := by omega
  have hnb6 : g6 ∉ (Value.slice (some ⟨gw, 0, none⟩) (ws.length + 1) cap).ownBlock.toList := by simp [Value.ownBlock]; omega
  have HREL : Hid (WRel ws G ∧ 32 * x = t.length) := ⟨hrel2, hx⟩
  have tl := hF.low t (by simp)
  have few := hF.few
  have hk7 : ws.length ≤ 6 := by simp at few; omega
  unfold u32V at cw
  have HMM : Hid (G.length = ws.length) := hlr.symm
  have hx1 : x ≤ 22415 := by omega
  have hml : maxLen = 9223372036854775807 := rfl
  clear hw5 hw hrel hrel2 hlr few hx
  have hreach : reachB 5 a b n (32 * x) = ok := by
    rw [← HOK.out, HREL.out.2]
    show _ = stepOk (G ++ [t]) 5 a b n
    simp only [reachB, stepOk, hasF_app]
  have HREACH : Hid (reachB 5 a b n (32 * x) = ok) := hreach
  have HRC := reaches_any w5.drew 5 a b n f (32 * x) (by decide) ha hb hn (by omega)
  rw [HREACH.out] at HRC
  have c51 := j5.get (j := 1) (v := .int .u32 (a : Int)) rfl
  have c52 := j5.get (j := 2) (v := .int .u32 (b : Int)) rfl
  have c53 := j5.get (j := 3) (v := .int .u32 (n : Int)) rfl
  have c54 := j5.get (j := 4) (v := .int .u8 (f : Int)) rfl
  have hc32 : ((32 * x : Nat) : Int) = 32 * (x : Int) := by omega
  rw [hc32] at HRC
  have HK0 : Hid ((fun w' => w'.cell? ⟨g6, 0, none⟩ = some (.bool ok) ∧ w'.cell? ⟨g5, 0, none⟩ = some (.int .u8 5) ∧ w'.cell? ⟨g5, 1, none⟩ = some (.int .u32 (a : Int)) ∧ w'.cell? ⟨g5, 2, none⟩ = some (.int .u32 (b : Int)) ∧ w'.cell? ⟨g5, 3, none⟩ = some (.int .u32 (n : Int)) ∧ w'.cell? ⟨g5, 4, none⟩ = some (.int .u8 (f : Int))) w5.drew) := ⟨c60, c50, c51, c52, c53, c54⟩
  have HKB : Hid (∀ w', Below w5.heap.size w5 w' → (fun w' => w'.cell? ⟨g6, 0, none⟩ = some (.bool ok) ∧ w'.cell? ⟨g5, 0, none⟩ = some (.int .u8 5) ∧ w'.cell? ⟨g5, 1, none⟩ = some (.int .u32 (a : Int)) ∧ w'.cell? ⟨g5, 2, none⟩ = some (.int .u32 (b : Int)) ∧ w'.cell? ⟨g5, 3, none⟩ = some (.int .u32 (n : Int)) ∧ w'.cell? ⟨g5, 4, none⟩ = some (.int .u8 (f : Int))) w') := fun w' b => by
    have q5 := j5.below b j5.lt
    have q6 := j6.below b j6.lt
    exact ⟨q6.get (ansC_0 _ _ _ _), q5.get (j := 0) rfl, q5.get (j := 1) rfl, q5.get (j := 2) rfl, q5.get (j := 3) rfl, q5.get (j := 4) rfl⟩
  clear hc32 hreach
  generalize ws.length = K at *
  have t26 : decide (0 < (K : Int) + 1) = true := decide_eq_true (by omega)
  go_upto_region 26 with fail
  go_region_held3 (fun w' => w'.cell? ⟨g6, 0, none⟩ = some (.bool ok) ∧ w'.cell? ⟨g5, 0, none⟩ = some (.int .u8 5) ∧ w'.cell? ⟨g5, 1, none⟩ = some (.int .u32 (a : Int)) ∧ w'.cell? ⟨g5, 2, none⟩ = some (.int .u32 (b : Int)) ∧ w'.cell? ⟨g5, 3, none⟩ = some (.int .u32 (n : Int)) ∧ w'.cell? ⟨g5, 4, none⟩ = some (.int .u8 (f : Int)))
    (first | exact HK0.out | exact HKB.out _ b6)
    (first | (go_at_call 64; refine HRC.mono ?_; rintro e w6 ⟨rfl, b6'⟩; have b6 : Below w5.heap.size w5 w6 := ((Same.drew w5).below _).trans b6'))
  all_goals (
    go_wp2
    go_ret
    exact ⟨by cases ok <;> rfl, _, (HREL.out.1.push HREL.out.2).same (step_len (by decide)), (HWD.out.grew b6).after hlT BB.out⟩)


set_option maxRecDepth 100000 in
set_option maxHeartbeats 4000000 in
theorem judge_6_none (w : World) (B T : Nat) (bv : Value) (buf base : List Nat) (F' : List (List Nat)) (har : ArF B T w bv buf base F') (wv : Value) (words : List Nat) (hw : Wd B T w wv words) (hrel : WRel words []) (hF : FOk []) (hBw : B ≤ w.heap.size)
    (a b n f : Nat) (ha : a < 4294967296) (hb : b < 4294967296) (hn : n < 4294967296) (ra rb : Option Addr) (m m' : Nat) (hra : RdNew m w ra (stepRead [] 6 a n)) (hrb : RdNew m' w rb (stepRead [] 6 a n)) :
    Calls Safg.prog 19 #[.pointer (some ⟨T, 0, none⟩), .agg (opC 6 a b n f).toArray, .agg (ansC (stepOk [] 6 a b n) (stepSize [] 6) (stepWord [] 6 a) (.slice ra (stepRead [] 6 a n).length (stepRead [] 6 a n).length)).toArray, .agg (ansC (stepOk [] 6 a b n) (stepSize [] 6) (stepWord [] 6 a) (.slice rb (stepRead [] 6 a n).length (stepRead [] 6 a n).length)).toArray] w fun e w' =>
      e = .returned (.bool true) ∧ ∃ words', WRel words' (stepF [] 6 a b n f) ∧ WPost B T w w' wv words' := by
  have hWl : (stepWord [] 6 a).length = 32 := stepWord_length
  have hWd : D.Dig (stepWord [] 6 a) := stepWord_dig hF
  have hnn := hra.cases hrb
  have RA := hra.rd
  have RB := hrb.rd
  have HRA : Hid (RdNew m w ra (stepRead [] 6 a n)) := hra
  clear hra hrb
  obtain ⟨ok, HOK⟩ : ∃ ok, Hid (stepOk [] 6 a b n = ok) := ⟨_, rfl⟩
  obtain ⟨sz, HSZ⟩ : ∃ sz, Hid (stepSize [] 6 = sz) := ⟨_, rfl⟩
  obtain ⟨W, HW⟩ : ∃ W, Hid (stepWord [] 6 a = W) := ⟨_, rfl⟩
  obtain ⟨r, HR⟩ : ∃ r, Hid (stepRead [] 6 a n = r) := ⟨_, rfl⟩
  obtain ⟨rl, HRL⟩ : ∃ rl, Hid (r.length = rl) := ⟨_, rfl⟩
  rw [HW.out] at hWl hWd
  rw [HR.out, HRL.out] at RA RB
  rw [HOK.out, HSZ.out, HW.out, HR.out, HRL.out]
  go_enter Safg.func19, Safg.ntmps19
  go_upto_region 1 with (first | (refine wpList_box_agg rfl 49 (.tmp 1) rfl (opC 6 a b n f) rfl ?_; intro w1 g5 hg5 k5 b1) | (refine wpList_box_agg rfl 52 (.tmp 2) rfl _ rfl ?_; intro w2 g6 hg6 k6 b2) | (refine wpList_box_agg rfl 52 (.tmp 3) rfl _ rfl ?_; intro w3 g7 hg7 k7 b3))
  have k6' := k6.below b3 k6.lt
  have k5' := (k5.below b2 k5.lt).below b3 (Nat.lt_of_lt_of_le k5.lt b2.size)
  have b03 : Below w.heap.size w w3 := (b1.trans (b2.mono b1.size)).trans (b3.mono (Nat.le_trans b1.size b2.size))
  have HS := same_true w3 ok sz W r ra rb rl hWl hWd (RA.below b03) (RB.below b03) hnn
  have hlT := hw.lt
  have hs01 := b1.size
  have hs02 := b2.size
  clear k5 k6 b1 b2 b3 RA RB hnn
  go_upto_region 3 with (first | (refine wpList_load_agg rfl 52 (.tmp 6) rfl g6 rfl _ k6' _ Safg.underlying52 (size52c hWl) ?_) | (refine wpList_load_agg rfl 52 (.tmp 7) rfl g7 rfl _ k7 _ Safg.underlying52 (size52c hWl) ?_) | (go_at_call 62; refine HS.mono ?_; rintro e w4 ⟨rfl, b4⟩; have b04 : Below w.heap.size w w4 := b03.trans (b4.mono b03.size); have HCK := aCheck w4 B T bv buf base F' (har.below b04)) | (go_at_call 61; refine HCK.mono ?_; rintro e w5 ⟨rfl, s5⟩))
  have b05 : Below w.heap.size w w5 := b04.trans (s5.below _)
  have j5 := s5.blk (k5'.below b4 k5'.lt)
  have j6 := s5.blk (k6'.below b4 k6'.lt)
  have hw5 := hw.below b05
  have hlT5 := hw5.lt
  have hsz5 := b05.size
  have c50 := j5.get (j := 0) (v := .int .u8 ((6 : Nat) : Int)) rfl
  have c60 := j6.get (ansC_0 _ _ _ _)
  have BB : Hid (Below w.heap.size w w5) := b05
  clear HS HCK b03 b04 b05 b4 s5 k5' k6' k7
  have hwn : words = [] := List.eq_nil_of_length_eq_zero hrel.len
  subst hwn
  obtain ⟨fa, fc, rfl, _, _⟩ := hw5.len_of
  have c11 := hw5.c11
  have HWD : Hid (Wd B T w5 (.slice fa 0 fc) []) := hw5
  have hnb6 : g6 ∉ (Value.slice fa 0 fc).ownBlock.toList := by
    intro hm
    simp only [Option.mem_toList] at hm
    have := (hw.vec.block_lt hm).1
    omega
  clear hw5 hw hrel
  obtain rfl : ok = false := HOK.out.symm
  go_upto_region 26 with fail
  go_quiet (fail)
  go_wp2_with fail
  go_ret
  exact ⟨rfl, [], WRel.nil.same (step_len (by decide)), (HWD.out.grew ((Same.drewN _ _).below _)).after hlT BB.out⟩


set_option maxRecDepth 100000 in
set_option maxHeartbeats 4000000 in
theorem judge_6_some (w : World) (B T : Nat) (bv : Value) (buf base : List Nat) (G : List (List Nat)) (t : List Nat) (F' : List (List Nat)) (har : ArF B T w bv buf base F') (wv : Value) (words : List Nat) (hw : Wd B T w wv words) (hrel : WRel words (G ++ [t])) (hF : FOk (G ++ [t])) (hBw : B ≤ w.heap.size)
    (a b n f : Nat) (ha : a < 4294967296) (hb : b < 4294967296) (hn : n < 4294967296) (ra rb : Option Addr) (m m' : Nat) (hra : RdNew m w ra (stepRead (G ++ [t]) 6 a n)) (hrb : RdNew m' w rb (stepRead (G ++ [t]) 6 a n)) :
    Calls Safg.prog 19 #[.pointer (some ⟨T, 0, none⟩), .agg (opC 6 a b n f).toArray, .agg (ansC (stepOk (G ++ [t]) 6 a b n) (stepSize (G ++ [t]) 6) (stepWord (G ++ [t]) 6 a) (.slice ra (stepRead (G ++ [t]) 6 a n).length (stepRead (G ++ [t]) 6 a n).length)).toArray, .agg (ansC (stepOk (G ++ [t]) 6 a b n) (stepSize (G ++ [t]) 6) (stepWord (G ++ [t]) 6 a) (.slice rb (stepRead (G ++ [t]) 6 a n).length (stepRead (G ++ [t]) 6 a n).length)).toArray] w fun e w' =>
      e = .returned (.bool true) ∧ ∃ words', WRel words' (stepF (G ++ [t]) 6 a b n f) ∧ WPost B T w w' wv words' := by
  have hWl : (stepWord (G ++ [t]) 6 a).length = 32 := stepWord_length
  have hWd : D.Dig (stepWord (G ++ [t]) 6 a) := stepWord_dig hF
  have hnn := hra.cases hrb
  have RA := hra.rd
  have RB := hrb.rd
  have HRA : Hid (RdNew m w ra (stepRead (G ++ [t]) 6 a n)) := hra
  clear hra hrb
  obtain ⟨ok, HOK⟩ : ∃ ok, Hid (stepOk (G ++ [t]) 6 a b n = ok) := ⟨_, rfl⟩
  obtain ⟨sz, HSZ⟩ : ∃ sz, Hid (stepSize (G ++ [t]) 6 = sz) := ⟨_, rfl⟩
  obtain ⟨W, HW⟩ : ∃ W, Hid (stepWord (G ++ [t]) 6 a = W) := ⟨_, rfl⟩
  obtain ⟨r, HR⟩ : ∃ r, Hid (stepRead (G ++ [t]) 6 a n = r) := ⟨_, rfl⟩
  obtain ⟨rl, HRL⟩ : ∃ rl, Hid (r.length = rl) := ⟨_, rfl⟩
  rw [HW.out] at hWl hWd
  rw [HR.out, HRL.out] at RA RB
  rw [HOK.out, HSZ.out, HW.out, HR.out, HRL.out]
  go_enter Safg.func19, Safg.ntmps19
  go_upto_region 1 with (first | (refine wpList_box_agg rfl 49 (.tmp 1) rfl (opC 6 a b n f) rfl ?_; intro w1 g5 hg5 k5 b1) | (refine wpList_box_agg rfl 52 (.tmp 2) rfl _ rfl ?_; intro w2 g6 hg6 k6 b2) | (refine wpList_box_agg rfl 52 (.tmp 3) rfl _ rfl ?_; intro w3 g7 hg7 k7 b3))
  have k6' := k6.below b3 k6.lt
  have k5' := (k5.below b2 k5.lt).below b3 (Nat.lt_of_lt_of_le k5.lt b2.size)
  have b03 : Below w.heap.size w w3 := (b1.trans (b2.mono b1.size)).trans (b3.mono (Nat.le_trans b1.size b2.size))
  have HS := same_true w3 ok sz W r ra rb rl hWl hWd (RA.below b03) (RB.below b03) hnn
  have hlT := hw.lt
  have hs01 := b1.size
  have hs02 := b2.size
  clear k5 k6 b1 b2 b3 RA RB hnn
  go_upto_region 3 with (first | (refine wpList_load_agg rfl 52 (.tmp 6) rfl g6 rfl _ k6' _ Safg.underlying52 (size52c hWl) ?_) | (refine wpList_load_agg rfl 52 (.tmp 7) rfl g7 rfl _ k7 _ Safg.underlying52 (size52c hWl) ?_) | (go_at_call 62; refine HS.mono ?_; rintro e w4 ⟨rfl, b4⟩; have b04 : Below w.heap.size w w4 := b03.trans (b4.mono b03.size); have HCK := aCheck w4 B T bv buf base F' (har.below b04)) | (go_at_call 61; refine HCK.mono ?_; rintro e w5 ⟨rfl, s5⟩))
  have b05 : Below w.heap.size w w5 := b04.trans (s5.below _)
  have j5 := s5.blk (k5'.below b4 k5'.lt)
  have j6 := s5.blk (k6'.below b4 k6'.lt)
  have hw5 := hw.below b05
  have hlT5 := hw5.lt
  have hsz5 := b05.size
  have c50 := j5.get (j := 0) (v := .int .u8 ((6 : Nat) : Int)) rfl
  have c60 := j6.get (ansC_0 _ _ _ _)
  have BB : Hid (Below w.heap.size w w5) := b05
  clear HS HCK b03 b04 b05 b4 s5 k5' k6' k7
  obtain ⟨ws, x, rfl, hrel2, hx⟩ := hrel.last
  have hlr := hrel2.len
  obtain ⟨gw, cap, rfl, cw, fw, hgT, hcap, hcm, hgl, hBg, _⟩ := hw5.top
  have c11 := hw5.c11
  have HWD : Hid (Wd B T w5 (.slice (some ⟨gw, 0, none⟩) (ws.length + 1) cap) (ws ++ [x])) := hw5
  have hgw0 := (hw.vec.block_lt (g := gw) rfl).1
  have hgw6 : gw ≠ g6 := by omega
  have hgw5 : gw ≠ g5 := by omega
  have hnb6 : g6 ∉ (Value.slice (some ⟨gw, 0, none⟩) (ws.length + 1) cap).ownBlock.toList := by simp [Value.ownBlock]; omega
  have HREL : Hid (WRel ws G ∧ 32 * x = t.length) := ⟨hrel2, hx⟩
  have tl := hF.low t (by simp)
  have few := hF.few
  have hk7 : ws.length ≤ 6 := by simp at few; omega
  unfold u32V at cw
  have HMM : Hid (G.length = ws.length) := hlr.symm
  have hx1 : x ≤ 22415 := by omega
  have hml : maxLen = 9223372036854775807 := rfl
  clear hw5 hw hrel hrel2 hlr few hx
  have hreach : reachB 6 a b n (32 * x) = ok := by
    rw [← HOK.out, HREL.out.2]
    show _ = stepOk (G ++ [t]) 6 a b n
    simp only [reachB, stepOk, hasF_app]
  have HREACH : Hid (reachB 6 a b n (32 * x) = ok) := hreach
  have HRC := reaches_any w5.drew 6 a b n f (32 * x) (by decide) ha hb hn (by omega)
  rw [HREACH.out] at HRC
  have c51 := j5.get (j := 1) (v := .int .u32 (a : Int)) rfl
  have c52 := j5.get (j := 2) (v := .int .u32 (b : Int)) rfl
  have c53 := j5.get (j := 3) (v := .int .u32 (n : Int)) rfl
  have c54 := j5.get (j := 4) (v := .int .u8 (f : Int)) rfl
  have hc32 : ((32 * x : Nat) : Int) = 32 * (x : Int) := by omega
  rw [hc32] at HRC
  have HK0 : Hid ((fun w' => w'.cell? ⟨g6, 0, none⟩ = some (.bool ok) ∧ w'.cell? ⟨g5, 0, none⟩ = some (.int .u8 6) ∧ w'.cell? ⟨g5, 1, none⟩ = some (.int .u32 (a : Int)) ∧ w'.cell? ⟨g5, 2, none⟩ = some (.int .u32 (b : Int)) ∧ w'.cell? ⟨g5, 3, none⟩ = some (.int .u32 (n : Int)) ∧ w'.cell? ⟨g5, 4, none⟩ = some (.int .u8 (f : Int))) w5.drew) := ⟨c60, c50, c51, c52, c53, c54⟩
  have HKB : Hid (∀ w', Below w5.heap.size w5 w' → (fun w' => w'.cell? ⟨g6, 0, none⟩ = some (.bool ok) ∧ w'.cell? ⟨g5, 0, none⟩ = some (.int .u8 6) ∧ w'.cell? ⟨g5, 1, none⟩ = some (.int .u32 (a : Int)) ∧ w'.cell? ⟨g5, 2, none⟩ = some (.int .u32 (b : Int)) ∧ w'.cell? ⟨g5, 3, none⟩ = some (.int .u32 (n : Int)) ∧ w'.cell? ⟨g5, 4, none⟩ = some (.int .u8 (f : Int))) w') := fun w' b => by
    have q5 := j5.below b j5.lt
    have q6 := j6.below b j6.lt
    exact ⟨q6.get (ansC_0 _ _ _ _), q5.get (j := 0) rfl, q5.get (j := 1) rfl, q5.get (j := 2) rfl, q5.get (j := 3) rfl, q5.get (j := 4) rfl⟩
  clear hc32 hreach
  generalize ws.length = K at *
  have t26 : decide (0 < (K : Int) + 1) = true := decide_eq_true (by omega)
  go_upto_region 26 with fail
  go_region_held3 (fun w' => w'.cell? ⟨g6, 0, none⟩ = some (.bool ok) ∧ w'.cell? ⟨g5, 0, none⟩ = some (.int .u8 6) ∧ w'.cell? ⟨g5, 1, none⟩ = some (.int .u32 (a : Int)) ∧ w'.cell? ⟨g5, 2, none⟩ = some (.int .u32 (b : Int)) ∧ w'.cell? ⟨g5, 3, none⟩ = some (.int .u32 (n : Int)) ∧ w'.cell? ⟨g5, 4, none⟩ = some (.int .u8 (f : Int)))
    (first | exact HK0.out | exact HKB.out _ b6)
    (first | (go_at_call 64; refine HRC.mono ?_; rintro e w6 ⟨rfl, b6'⟩; have b6 : Below w5.heap.size w5 w6 := ((Same.drew w5).below _).trans b6'))
  all_goals (
    go_wp2
    go_ret
    exact ⟨by cases ok <;> rfl, _, (HREL.out.1.push HREL.out.2).same (step_len (by decide)), (HWD.out.grew b6).after hlT BB.out⟩)


set_option maxRecDepth 100000 in
set_option maxHeartbeats 4000000 in
theorem judge_7_none (w : World) (B T : Nat) (bv : Value) (buf base : List Nat) (F' : List (List Nat)) (har : ArF B T w bv buf base F') (wv : Value) (words : List Nat) (hw : Wd B T w wv words) (hrel : WRel words []) (hF : FOk []) (hBw : B ≤ w.heap.size)
    (a b n f : Nat) (ha : a < 4294967296) (hb : b < 4294967296) (hn : n < 4294967296) (ra rb : Option Addr) (m m' : Nat) (hra : RdNew m w ra (stepRead [] 7 a n)) (hrb : RdNew m' w rb (stepRead [] 7 a n)) :
    Calls Safg.prog 19 #[.pointer (some ⟨T, 0, none⟩), .agg (opC 7 a b n f).toArray, .agg (ansC (stepOk [] 7 a b n) (stepSize [] 7) (stepWord [] 7 a) (.slice ra (stepRead [] 7 a n).length (stepRead [] 7 a n).length)).toArray, .agg (ansC (stepOk [] 7 a b n) (stepSize [] 7) (stepWord [] 7 a) (.slice rb (stepRead [] 7 a n).length (stepRead [] 7 a n).length)).toArray] w fun e w' =>
      e = .returned (.bool true) ∧ ∃ words', WRel words' (stepF [] 7 a b n f) ∧ WPost B T w w' wv words' := by
  have hWl : (stepWord [] 7 a).length = 32 := stepWord_length
  have hWd : D.Dig (stepWord [] 7 a) := stepWord_dig hF
  have hnn := hra.cases hrb
  have RA := hra.rd
  have RB := hrb.rd
  have HRA : Hid (RdNew m w ra (stepRead [] 7 a n)) := hra
  clear hra hrb
  obtain ⟨ok, HOK⟩ : ∃ ok, Hid (stepOk [] 7 a b n = ok) := ⟨_, rfl⟩
  obtain ⟨sz, HSZ⟩ : ∃ sz, Hid (stepSize [] 7 = sz) := ⟨_, rfl⟩
  obtain ⟨W, HW⟩ : ∃ W, Hid (stepWord [] 7 a = W) := ⟨_, rfl⟩
  obtain ⟨r, HR⟩ : ∃ r, Hid (stepRead [] 7 a n = r) := ⟨_, rfl⟩
  obtain ⟨rl, HRL⟩ : ∃ rl, Hid (r.length = rl) := ⟨_, rfl⟩
  rw [HW.out] at hWl hWd
  rw [HR.out, HRL.out] at RA RB
  rw [HOK.out, HSZ.out, HW.out, HR.out, HRL.out]
  go_enter Safg.func19, Safg.ntmps19
  go_upto_region 1 with (first | (refine wpList_box_agg rfl 49 (.tmp 1) rfl (opC 7 a b n f) rfl ?_; intro w1 g5 hg5 k5 b1) | (refine wpList_box_agg rfl 52 (.tmp 2) rfl _ rfl ?_; intro w2 g6 hg6 k6 b2) | (refine wpList_box_agg rfl 52 (.tmp 3) rfl _ rfl ?_; intro w3 g7 hg7 k7 b3))
  have k6' := k6.below b3 k6.lt
  have k5' := (k5.below b2 k5.lt).below b3 (Nat.lt_of_lt_of_le k5.lt b2.size)
  have b03 : Below w.heap.size w w3 := (b1.trans (b2.mono b1.size)).trans (b3.mono (Nat.le_trans b1.size b2.size))
  have HS := same_true w3 ok sz W r ra rb rl hWl hWd (RA.below b03) (RB.below b03) hnn
  have hlT := hw.lt
  have hs01 := b1.size
  have hs02 := b2.size
  clear k5 k6 b1 b2 b3 RA RB hnn
  go_upto_region 3 with (first | (refine wpList_load_agg rfl 52 (.tmp 6) rfl g6 rfl _ k6' _ Safg.underlying52 (size52c hWl) ?_) | (refine wpList_load_agg rfl 52 (.tmp 7) rfl g7 rfl _ k7 _ Safg.underlying52 (size52c hWl) ?_) | (go_at_call 62; refine HS.mono ?_; rintro e w4 ⟨rfl, b4⟩; have b04 : Below w.heap.size w w4 := b03.trans (b4.mono b03.size); have HCK := aCheck w4 B T bv buf base F' (har.below b04)) | (go_at_call 61; refine HCK.mono ?_; rintro e w5 ⟨rfl, s5⟩))
  have b05 : Below w.heap.size w w5 := b04.trans (s5.below _)
  have j5 := s5.blk (k5'.below b4 k5'.lt)
  have j6 := s5.blk (k6'.below b4 k6'.lt)
  have hw5 := hw.below b05
  have hlT5 := hw5.lt
  have hsz5 := b05.size
  have c50 := j5.get (j := 0) (v := .int .u8 ((7 : Nat) : Int)) rfl
  have c60 := j6.get (ansC_0 _ _ _ _)
  have BB : Hid (Below w.heap.size w w5) := b05
  clear HS HCK b03 b04 b05 b4 s5 k5' k6' k7
  have hwn : words = [] := List.eq_nil_of_length_eq_zero hrel.len
  subst hwn
  obtain ⟨fa, fc, rfl, _, _⟩ := hw5.len_of
  have c11 := hw5.c11
  have HWD : Hid (Wd B T w5 (.slice fa 0 fc) []) := hw5
  have hnb6 : g6 ∉ (Value.slice fa 0 fc).ownBlock.toList := by
    intro hm
    simp only [Option.mem_toList] at hm
    have := (hw.vec.block_lt hm).1
    omega
  clear hw5 hw hrel
  obtain rfl : ok = false := HOK.out.symm
  go_upto_region 26 with fail
  go_quiet (fail)
  go_wp2_with fail
  go_ret
  exact ⟨rfl, [], WRel.nil.same (step_len (by decide)), (HWD.out.grew ((Same.drewN _ _).below _)).after hlT BB.out⟩


set_option maxRecDepth 100000 in
set_option maxHeartbeats 4000000 in
theorem judge_7_some (w : World) (B T : Nat) (bv : Value) (buf base : List Nat) (G : List (List Nat)) (t : List Nat) (F' : List (List Nat)) (har : ArF B T w bv buf base F') (wv : Value) (words : List Nat) (hw : Wd B T w wv words) (hrel : WRel words (G ++ [t])) (hF : FOk (G ++ [t])) (hBw : B ≤ w.heap.size)
    (a b n f : Nat) (ha : a < 4294967296) (hb : b < 4294967296) (hn : n < 4294967296) (ra rb : Option Addr) (m m' : Nat) (hra : RdNew m w ra (stepRead (G ++ [t]) 7 a n)) (hrb : RdNew m' w rb (stepRead (G ++ [t]) 7 a n)) :
    Calls Safg.prog 19 #[.pointer (some ⟨T, 0, none⟩), .agg (opC 7 a b n f).toArray, .agg (ansC (stepOk (G ++ [t]) 7 a b n) (stepSize (G ++ [t]) 7) (stepWord (G ++ [t]) 7 a) (.slice ra (stepRead (G ++ [t]) 7 a n).length (stepRead (G ++ [t]) 7 a n).length)).toArray, .agg (ansC (stepOk (G ++ [t]) 7 a b n) (stepSize (G ++ [t]) 7) (stepWord (G ++ [t]) 7 a) (.slice rb (stepRead (G ++ [t]) 7 a n).length (stepRead (G ++ [t]) 7 a n).length)).toArray] w fun e w' =>
      e = .returned (.bool true) ∧ ∃ words', WRel words' (stepF (G ++ [t]) 7 a b n f) ∧ WPost B T w w' wv words' := by
  have hWl : (stepWord (G ++ [t]) 7 a).length = 32 := stepWord_length
  have hWd : D.Dig (stepWord (G ++ [t]) 7 a) := stepWord_dig hF
  have hnn := hra.cases hrb
  have RA := hra.rd
  have RB := hrb.rd
  have HRA : Hid (RdNew m w ra (stepRead (G ++ [t]) 7 a n)) := hra
  clear hra hrb
  obtain ⟨ok, HOK⟩ : ∃ ok, Hid (stepOk (G ++ [t]) 7 a b n = ok) := ⟨_, rfl⟩
  obtain ⟨sz, HSZ⟩ : ∃ sz, Hid (stepSize (G ++ [t]) 7 = sz) := ⟨_, rfl⟩
  obtain ⟨W, HW⟩ : ∃ W, Hid (stepWord (G ++ [t]) 7 a = W) := ⟨_, rfl⟩
  obtain ⟨r, HR⟩ : ∃ r, Hid (stepRead (G ++ [t]) 7 a n = r) := ⟨_, rfl⟩
  obtain ⟨rl, HRL⟩ : ∃ rl, Hid (r.length = rl) := ⟨_, rfl⟩
  rw [HW.out] at hWl hWd
  rw [HR.out, HRL.out] at RA RB
  rw [HOK.out, HSZ.out, HW.out, HR.out, HRL.out]
  go_enter Safg.func19, Safg.ntmps19
  go_upto_region 1 with (first | (refine wpList_box_agg rfl 49 (.tmp 1) rfl (opC 7 a b n f) rfl ?_; intro w1 g5 hg5 k5 b1) | (refine wpList_box_agg rfl 52 (.tmp 2) rfl _ rfl ?_; intro w2 g6 hg6 k6 b2) | (refine wpList_box_agg rfl 52 (.tmp 3) rfl _ rfl ?_; intro w3 g7 hg7 k7 b3))
  have k6' := k6.below b3 k6.lt
  have k5' := (k5.below b2 k5.lt).below b3 (Nat.lt_of_lt_of_le k5.lt b2.size)
  have b03 : Below w.heap.size w w3 := (b1.trans (b2.mono b1.size)).trans (b3.mono (Nat.le_trans b1.size b2.size))
  have HS := same_true w3 ok sz W r ra rb rl hWl hWd (RA.below b03) (RB.below b03) hnn
  have hlT := hw.lt
  have hs01 := b1.size
  have hs02 := b2.size
  clear k5 k6 b1 b2 b3 RA RB hnn
  go_upto_region 3 with (first | (refine wpList_load_agg rfl 52 (.tmp 6) rfl g6 rfl _ k6' _ Safg.underlying52 (size52c hWl) ?_) | (refine wpList_load_agg rfl 52 (.tmp 7) rfl g7 rfl _ k7 _ Safg.underlying52 (size52c hWl) ?_) | (go_at_call 62; refine HS.mono ?_; rintro e w4 ⟨rfl, b4⟩; have b04 : Below w.heap.size w w4 := b03.trans (b4.mono b03.size); have HCK := aCheck w4 B T bv buf base F' (har.below b04)) | (go_at_call 61; refine HCK.mono ?_; rintro e w5 ⟨rfl, s5⟩))
  have b05 : Below w.heap.size w w5 := b04.trans (s5.below _)
  have j5 := s5.blk (k5'.below b4 k5'.lt)
  have j6 := s5.blk (k6'.below b4 k6'.lt)
  have hw5 := hw.below b05
  have hlT5 := hw5.lt
  have hsz5 := b05.size
  have c50 := j5.get (j := 0) (v := .int .u8 ((7 : Nat) : Int)) rfl
  have c60 := j6.get (ansC_0 _ _ _ _)
  have BB : Hid (Below w.heap.size w w5) := b05
  clear HS HCK b03 b04 b05 b4 s5 k5' k6' k7
  obtain ⟨ws, x, rfl, hrel2, hx⟩ := hrel.last
  have hlr := hrel2.len
  obtain ⟨gw, cap, rfl, cw, fw, hgT, hcap, hcm, hgl, hBg, _⟩ := hw5.top
  have c11 := hw5.c11
  have HWD : Hid (Wd B T w5 (.slice (some ⟨gw, 0, none⟩) (ws.length + 1) cap) (ws ++ [x])) := hw5
  have hgw0 := (hw.vec.block_lt (g := gw) rfl).1
  have hgw6 : gw ≠ g6 := by omega
  have hgw5 : gw ≠ g5 := by omega
  have hnb6 : g6 ∉ (Value.slice (some ⟨gw, 0, none⟩) (ws.length + 1) cap).ownBlock.toList := by simp [Value.ownBlock]; omega
  have HREL : Hid (WRel ws G ∧ 32 * x = t.length) := ⟨hrel2, hx⟩
  have tl := hF.low t (by simp)
  have few := hF.few
  have hk7 : ws.length ≤ 6 := by simp at few; omega
  unfold u32V at cw
  have HMM : Hid (G.length = ws.length) := hlr.symm
  have hx1 : x ≤ 22415 := by omega
  have hml : maxLen = 9223372036854775807 := rfl
  clear hw5 hw hrel hrel2 hlr few hx
  have hreach : reachB 7 a b n (32 * x) = ok := by
    rw [← HOK.out, HREL.out.2]
    show _ = stepOk (G ++ [t]) 7 a b n
    simp only [reachB, stepOk, hasF_app]
  have HREACH : Hid (reachB 7 a b n (32 * x) = ok) := hreach
  have HRC := reaches_any w5.drew 7 a b n f (32 * x) (by decide) ha hb hn (by omega)
  rw [HREACH.out] at HRC
  have c51 := j5.get (j := 1) (v := .int .u32 (a : Int)) rfl
  have c52 := j5.get (j := 2) (v := .int .u32 (b : Int)) rfl
  have c53 := j5.get (j := 3) (v := .int .u32 (n : Int)) rfl
  have c54 := j5.get (j := 4) (v := .int .u8 (f : Int)) rfl
  have hc32 : ((32 * x : Nat) : Int) = 32 * (x : Int) := by omega
  rw [hc32] at HRC
  have HK0 : Hid ((fun w' => w'.cell? ⟨g6, 0, none⟩ = some (.bool ok) ∧ w'.cell? ⟨g5, 0, none⟩ = some (.int .u8 7) ∧ w'.cell? ⟨g5, 1, none⟩ = some (.int .u32 (a : Int)) ∧ w'.cell? ⟨g5, 2, none⟩ = some (.int .u32 (b : Int)) ∧ w'.cell? ⟨g5, 3, none⟩ = some (.int .u32 (n : Int)) ∧ w'.cell? ⟨g5, 4, none⟩ = some (.int .u8 (f : Int))) w5.drew) := ⟨c60, c50, c51, c52, c53, c54⟩
  have HKB : Hid (∀ w', Below w5.heap.size w5 w' → (fun w' => w'.cell? ⟨g6, 0, none⟩ = some (.bool ok) ∧ w'.cell? ⟨g5, 0, none⟩ = some (.int .u8 7) ∧ w'.cell? ⟨g5, 1, none⟩ = some (.int .u32 (a : Int)) ∧ w'.cell? ⟨g5, 2, none⟩ = some (.int .u32 (b : Int)) ∧ w'.cell? ⟨g5, 3, none⟩ = some (.int .u32 (n : Int)) ∧ w'.cell? ⟨g5, 4, none⟩ = some (.int .u8 (f : Int))) w') := fun w' b => by
    have q5 := j5.below b j5.lt
    have q6 := j6.below b j6.lt
    exact ⟨q6.get (ansC_0 _ _ _ _), q5.get (j := 0) rfl, q5.get (j := 1) rfl, q5.get (j := 2) rfl, q5.get (j := 3) rfl, q5.get (j := 4) rfl⟩
  clear hc32 hreach
  generalize ws.length = K at *
  have t26 : decide (0 < (K : Int) + 1) = true := decide_eq_true (by omega)
  go_upto_region 26 with fail
  go_region_held3 (fun w' => w'.cell? ⟨g6, 0, none⟩ = some (.bool ok) ∧ w'.cell? ⟨g5, 0, none⟩ = some (.int .u8 7) ∧ w'.cell? ⟨g5, 1, none⟩ = some (.int .u32 (a : Int)) ∧ w'.cell? ⟨g5, 2, none⟩ = some (.int .u32 (b : Int)) ∧ w'.cell? ⟨g5, 3, none⟩ = some (.int .u32 (n : Int)) ∧ w'.cell? ⟨g5, 4, none⟩ = some (.int .u8 (f : Int)))
    (first | exact HK0.out | exact HKB.out _ b6)
    (first | (go_at_call 64; refine HRC.mono ?_; rintro e w6 ⟨rfl, b6'⟩; have b6 : Below w5.heap.size w5 w6 := ((Same.drew w5).below _).trans b6'))
  all_goals (
    go_wp2
    go_ret
    exact ⟨by cases ok <;> rfl, _, (HREL.out.1.push HREL.out.2).same (step_len (by decide)), (HWD.out.grew b6).after hlT BB.out⟩)


set_option maxRecDepth 100000 in
set_option maxHeartbeats 4000000 in
theorem judge_9_none (w : World) (B T : Nat) (bv : Value) (buf base : List Nat) (F' : List (List Nat)) (har : ArF B T w bv buf base F') (wv : Value) (words : List Nat) (hw : Wd B T w wv words) (hrel : WRel words []) (hF : FOk []) (hBw : B ≤ w.heap.size)
    (a b n f : Nat) (ha : a < 4294967296) (hb : b < 4294967296) (hn : n < 4294967296) (ra rb : Option Addr) (m m' : Nat) (hra : RdNew m w ra (stepRead [] 9 a n)) (hrb : RdNew m' w rb (stepRead [] 9 a n)) :
    Calls Safg.prog 19 #[.pointer (some ⟨T, 0, none⟩), .agg (opC 9 a b n f).toArray, .agg (ansC (stepOk [] 9 a b n) (stepSize [] 9) (stepWord [] 9 a) (.slice ra (stepRead [] 9 a n).length (stepRead [] 9 a n).length)).toArray, .agg (ansC (stepOk [] 9 a b n) (stepSize [] 9) (stepWord [] 9 a) (.slice rb (stepRead [] 9 a n).length (stepRead [] 9 a n).length)).toArray] w fun e w' =>
      e = .returned (.bool true) ∧ ∃ words', WRel words' (stepF [] 9 a b n f) ∧ WPost B T w w' wv words' := by
  have hWl : (stepWord [] 9 a).length = 32 := stepWord_length
  have hWd : D.Dig (stepWord [] 9 a) := stepWord_dig hF
  have hnn := hra.cases hrb
  have RA := hra.rd
  have RB := hrb.rd
  have HRA : Hid (RdNew m w ra (stepRead [] 9 a n)) := hra
  clear hra hrb
  obtain ⟨ok, HOK⟩ : ∃ ok, Hid (stepOk [] 9 a b n = ok) := ⟨_, rfl⟩
  obtain ⟨sz, HSZ⟩ : ∃ sz, Hid (stepSize [] 9 = sz) := ⟨_, rfl⟩
  obtain ⟨W, HW⟩ : ∃ W, Hid (stepWord [] 9 a = W) := ⟨_, rfl⟩
  obtain ⟨r, HR⟩ : ∃ r, Hid (stepRead [] 9 a n = r) := ⟨_, rfl⟩
  obtain ⟨rl, HRL⟩ : ∃ rl, Hid (r.length = rl) := ⟨_, rfl⟩
  rw [HW.out] at hWl hWd
  rw [HR.out, HRL.out] at RA RB
  rw [HOK.out, HSZ.out, HW.out, HR.out, HRL.out]
  go_enter Safg.func19, Safg.ntmps19
  go_upto_region 1 with (first | (refine wpList_box_agg rfl 49 (.tmp 1) rfl (opC 9 a b n f) rfl ?_; intro w1 g5 hg5 k5 b1) | (refine wpList_box_agg rfl 52 (.tmp 2) rfl _ rfl ?_; intro w2 g6 hg6 k6 b2) | (refine wpList_box_agg rfl 52 (.tmp 3) rfl _ rfl ?_; intro w3 g7 hg7 k7 b3))
  have k6' := k6.below b3 k6.lt
  have k5' := (k5.below b2 k5.lt).below b3 (Nat.lt_of_lt_of_le k5.lt b2.size)
  have b03 : Below w.heap.size w w3 := (b1.trans (b2.mono b1.size)).trans (b3.mono (Nat.le_trans b1.size b2.size))
  have HS := same_true w3 ok sz W r ra rb rl hWl hWd (RA.below b03) (RB.below b03) hnn
  have hlT := hw.lt
  have hs01 := b1.size
  have hs02 := b2.size
  clear k5 k6 b1 b2 b3 RA RB hnn
  go_upto_region 3 with (first | (refine wpList_load_agg rfl 52 (.tmp 6) rfl g6 rfl _ k6' _ Safg.underlying52 (size52c hWl) ?_) | (refine wpList_load_agg rfl 52 (.tmp 7) rfl g7 rfl _ k7 _ Safg.underlying52 (size52c hWl) ?_) | (go_at_call 62; refine HS.mono ?_; rintro e w4 ⟨rfl, b4⟩; have b04 : Below w.heap.size w w4 := b03.trans (b4.mono b03.size); have HCK := aCheck w4 B T bv buf base F' (har.below b04)) | (go_at_call 61; refine HCK.mono ?_; rintro e w5 ⟨rfl, s5⟩))
  have b05 : Below w.heap.size w w5 := b04.trans (s5.below _)
  have j5 := s5.blk (k5'.below b4 k5'.lt)
  have j6 := s5.blk (k6'.below b4 k6'.lt)
  have hw5 := hw.below b05
  have hlT5 := hw5.lt
  have hsz5 := b05.size
  have c50 := j5.get (j := 0) (v := .int .u8 ((9 : Nat) : Int)) rfl
  have c60 := j6.get (ansC_0 _ _ _ _)
  have BB : Hid (Below w.heap.size w w5) := b05
  clear HS HCK b03 b04 b05 b4 s5 k5' k6' k7
  have hwn : words = [] := List.eq_nil_of_length_eq_zero hrel.len
  subst hwn
  obtain ⟨fa, fc, rfl, _, _⟩ := hw5.len_of
  have c11 := hw5.c11
  have HWD : Hid (Wd B T w5 (.slice fa 0 fc) []) := hw5
  have hnb6 : g6 ∉ (Value.slice fa 0 fc).ownBlock.toList := by
    intro hm
    simp only [Option.mem_toList] at hm
    have := (hw.vec.block_lt hm).1
    omega
  clear hw5 hw hrel
  obtain rfl : ok = false := HOK.out.symm
  go_upto_region 26 with fail
  go_quiet (fail)
  go_wp2_with fail
  go_ret
  exact ⟨rfl, [], WRel.nil.same (step_len (by decide)), (HWD.out.grew ((Same.drewN _ _).below _)).after hlT BB.out⟩


set_option maxRecDepth 100000 in
set_option maxHeartbeats 4000000 in
theorem judge_9_some (w : World) (B T : Nat) (bv : Value) (buf base : List Nat) (G : List (List Nat)) (t : List Nat) (F' : List (List Nat)) (har : ArF B T w bv buf base F') (wv : Value) (words : List Nat) (hw : Wd B T w wv words) (hrel : WRel words (G ++ [t])) (hF : FOk (G ++ [t])) (hBw : B ≤ w.heap.size)
    (a b n f : Nat) (ha : a < 4294967296) (hb : b < 4294967296) (hn : n < 4294967296) (ra rb : Option Addr) (m m' : Nat) (hra : RdNew m w ra (stepRead (G ++ [t]) 9 a n)) (hrb : RdNew m' w rb (stepRead (G ++ [t]) 9 a n)) :
    Calls Safg.prog 19 #[.pointer (some ⟨T, 0, none⟩), .agg (opC 9 a b n f).toArray, .agg (ansC (stepOk (G ++ [t]) 9 a b n) (stepSize (G ++ [t]) 9) (stepWord (G ++ [t]) 9 a) (.slice ra (stepRead (G ++ [t]) 9 a n).length (stepRead (G ++ [t]) 9 a n).length)).toArray, .agg (ansC (stepOk (G ++ [t]) 9 a b n) (stepSize (G ++ [t]) 9) (stepWord (G ++ [t]) 9 a) (.slice rb (stepRead (G ++ [t]) 9 a n).length (stepRead (G ++ [t]) 9 a n).length)).toArray] w fun e w' =>
      e = .returned (.bool true) ∧ ∃ words', WRel words' (stepF (G ++ [t]) 9 a b n f) ∧ WPost B T w w' wv words' := by
  have hWl : (stepWord (G ++ [t]) 9 a).length = 32 := stepWord_length
  have hWd : D.Dig (stepWord (G ++ [t]) 9 a) := stepWord_dig hF
  have hnn := hra.cases hrb
  have RA := hra.rd
  have RB := hrb.rd
  have HRA : Hid (RdNew m w ra (stepRead (G ++ [t]) 9 a n)) := hra
  clear hra hrb
  obtain ⟨ok, HOK⟩ : ∃ ok, Hid (stepOk (G ++ [t]) 9 a b n = ok) := ⟨_, rfl⟩
  obtain ⟨sz, HSZ⟩ : ∃ sz, Hid (stepSize (G ++ [t]) 9 = sz) := ⟨_, rfl⟩
  obtain ⟨W, HW⟩ : ∃ W, Hid (stepWord (G ++ [t]) 9 a = W) := ⟨_, rfl⟩
  obtain ⟨r, HR⟩ : ∃ r, Hid (stepRead (G ++ [t]) 9 a n = r) := ⟨_, rfl⟩
  obtain ⟨rl, HRL⟩ : ∃ rl, Hid (r.length = rl) := ⟨_, rfl⟩
  rw [HW.out] at hWl hWd
  rw [HR.out, HRL.out] at RA RB
  rw [HOK.out, HSZ.out, HW.out, HR.out, HRL.out]
  go_enter Safg.func19, Safg.ntmps19
  go_upto_region 1 with (first | (refine wpList_box_agg rfl 49 (.tmp 1) rfl (opC 9 a b n f) rfl ?_; intro w1 g5 hg5 k5 b1) | (refine wpList_box_agg rfl 52 (.tmp 2) rfl _ rfl ?_; intro w2 g6 hg6 k6 b2) | (refine wpList_box_agg rfl 52 (.tmp 3) rfl _ rfl ?_; intro w3 g7 hg7 k7 b3))
  have k6' := k6.below b3 k6.lt
  have k5' := (k5.below b2 k5.lt).below b3 (Nat.lt_of_lt_of_le k5.lt b2.size)
  have b03 : Below w.heap.size w w3 := (b1.trans (b2.mono b1.size)).trans (b3.mono (Nat.le_trans b1.size b2.size))
  have HS := same_true w3 ok sz W r ra rb rl hWl hWd (RA.below b03) (RB.below b03) hnn
  have hlT := hw.lt
  have hs01 := b1.size
  have hs02 := b2.size
  clear k5 k6 b1 b2 b3 RA RB hnn
  go_upto_region 3 with (first | (refine wpList_load_agg rfl 52 (.tmp 6) rfl g6 rfl _ k6' _ Safg.underlying52 (size52c hWl) ?_) | (refine wpList_load_agg rfl 52 (.tmp 7) rfl g7 rfl _ k7 _ Safg.underlying52 (size52c hWl) ?_) | (go_at_call 62; refine HS.mono ?_; rintro e w4 ⟨rfl, b4⟩; have b04 : Below w.heap.size w w4 := b03.trans (b4.mono b03.size); have HCK := aCheck w4 B T bv buf base F' (har.below b04)) | (go_at_call 61; refine HCK.mono ?_; rintro e w5 ⟨rfl, s5⟩))
  have b05 : Below w.heap.size w w5 := b04.trans (s5.below _)
  have j5 := s5.blk (k5'.below b4 k5'.lt)
  have j6 := s5.blk (k6'.below b4 k6'.lt)
  have hw5 := hw.below b05
  have hlT5 := hw5.lt
  have hsz5 := b05.size
  have c50 := j5.get (j := 0) (v := .int .u8 ((9 : Nat) : Int)) rfl
  have c60 := j6.get (ansC_0 _ _ _ _)
  have BB : Hid (Below w.heap.size w w5) := b05
  clear HS HCK b03 b04 b05 b4 s5 k5' k6' k7
  obtain ⟨ws, x, rfl, hrel2, hx⟩ := hrel.last
  have hlr := hrel2.len
  obtain ⟨gw, cap, rfl, cw, fw, hgT, hcap, hcm, hgl, hBg, _⟩ := hw5.top
  have c11 := hw5.c11
  have HWD : Hid (Wd B T w5 (.slice (some ⟨gw, 0, none⟩) (ws.length + 1) cap) (ws ++ [x])) := hw5
  have hgw0 := (hw.vec.block_lt (g := gw) rfl).1
  have hgw6 : gw ≠ g6 := by omega
  have hgw5 : gw ≠ g5 := by omega
  have hnb6 : g6 ∉ (Value.slice (some ⟨gw, 0, none⟩) (ws.length + 1) cap).ownBlock.toList := by simp [Value.ownBlock]; omega
  have HREL : Hid (WRel ws G ∧ 32 * x = t.length) := ⟨hrel2, hx⟩
  have tl := hF.low t (by simp)
  have few := hF.few
  have hk7 : ws.length ≤ 6 := by simp at few; omega
  unfold u32V at cw
  have HMM : Hid (G.length = ws.length) := hlr.symm
  have hx1 : x ≤ 22415 := by omega
  have hml : maxLen = 9223372036854775807 := rfl
  clear hw5 hw hrel hrel2 hlr few hx
  have hreach : reachB 9 a b n (32 * x) = ok := by
    rw [← HOK.out, HREL.out.2]
    show _ = stepOk (G ++ [t]) 9 a b n
    simp only [reachB, stepOk, hasF_app]
  have HREACH : Hid (reachB 9 a b n (32 * x) = ok) := hreach
  have HRC := reaches_any w5.drew 9 a b n f (32 * x) (by decide) ha hb hn (by omega)
  rw [HREACH.out] at HRC
  have c51 := j5.get (j := 1) (v := .int .u32 (a : Int)) rfl
  have c52 := j5.get (j := 2) (v := .int .u32 (b : Int)) rfl
  have c53 := j5.get (j := 3) (v := .int .u32 (n : Int)) rfl
  have c54 := j5.get (j := 4) (v := .int .u8 (f : Int)) rfl
  have hc32 : ((32 * x : Nat) : Int) = 32 * (x : Int) := by omega
  rw [hc32] at HRC
  have HK0 : Hid ((fun w' => w'.cell? ⟨g6, 0, none⟩ = some (.bool ok) ∧ w'.cell? ⟨g5, 0, none⟩ = some (.int .u8 9) ∧ w'.cell? ⟨g5, 1, none⟩ = some (.int .u32 (a : Int)) ∧ w'.cell? ⟨g5, 2, none⟩ = some (.int .u32 (b : Int)) ∧ w'.cell? ⟨g5, 3, none⟩ = some (.int .u32 (n : Int)) ∧ w'.cell? ⟨g5, 4, none⟩ = some (.int .u8 (f : Int))) w5.drew) := ⟨c60, c50, c51, c52, c53, c54⟩
  have HKB : Hid (∀ w', Below w5.heap.size w5 w' → (fun w' => w'.cell? ⟨g6, 0, none⟩ = some (.bool ok) ∧ w'.cell? ⟨g5, 0, none⟩ = some (.int .u8 9) ∧ w'.cell? ⟨g5, 1, none⟩ = some (.int .u32 (a : Int)) ∧ w'.cell? ⟨g5, 2, none⟩ = some (.int .u32 (b : Int)) ∧ w'.cell? ⟨g5, 3, none⟩ = some (.int .u32 (n : Int)) ∧ w'.cell? ⟨g5, 4, none⟩ = some (.int .u8 (f : Int))) w') := fun w' b => by
    have q5 := j5.below b j5.lt
    have q6 := j6.below b j6.lt
    exact ⟨q6.get (ansC_0 _ _ _ _), q5.get (j := 0) rfl, q5.get (j := 1) rfl, q5.get (j := 2) rfl, q5.get (j := 3) rfl, q5.get (j := 4) rfl⟩
  clear hc32 hreach
  generalize ws.length = K at *
  have t26 : decide (0 < (K : Int) + 1) = true := decide_eq_true (by omega)
  go_upto_region 26 with fail
  go_region_held3 (fun w' => w'.cell? ⟨g6, 0, none⟩ = some (.bool ok) ∧ w'.cell? ⟨g5, 0, none⟩ = some (.int .u8 9) ∧ w'.cell? ⟨g5, 1, none⟩ = some (.int .u32 (a : Int)) ∧ w'.cell? ⟨g5, 2, none⟩ = some (.int .u32 (b : Int)) ∧ w'.cell? ⟨g5, 3, none⟩ = some (.int .u32 (n : Int)) ∧ w'.cell? ⟨g5, 4, none⟩ = some (.int .u8 (f : Int)))
    (first | exact HK0.out | exact HKB.out _ b6)
    (first | (go_at_call 64; refine HRC.mono ?_; rintro e w6 ⟨rfl, b6'⟩; have b6 : Below w5.heap.size w5 w6 := ((Same.drew w5).below _).trans b6'))
  all_goals (
    go_wp2
    go_ret
    exact ⟨by cases ok <;> rfl, _, (HREL.out.1.push HREL.out.2).same (step_len (by decide)), (HWD.out.grew b6).after hlT BB.out⟩)


set_option maxRecDepth 100000 in
set_option maxHeartbeats 4000000 in
theorem judge_8_none (w : World) (B T : Nat) (bv : Value) (buf base : List Nat) (F' : List (List Nat)) (har : ArF B T w bv buf base F') (wv : Value) (words : List Nat) (hw : Wd B T w wv words) (hrel : WRel words []) (hF : FOk []) (hBw : B ≤ w.heap.size)
    (a b n f : Nat) (ha : a < 4294967296) (hb : b < 4294967296) (hn : n < 4294967296) (ra rb : Option Addr) (m m' : Nat) (hra : RdNew m w ra (stepRead [] 8 a n)) (hrb : RdNew m' w rb (stepRead [] 8 a n)) :
    Calls Safg.prog 19 #[.pointer (some ⟨T, 0, none⟩), .agg (opC 8 a b n f).toArray, .agg (ansC (stepOk [] 8 a b n) (stepSize [] 8) (stepWord [] 8 a) (.slice ra (stepRead [] 8 a n).length (stepRead [] 8 a n).length)).toArray, .agg (ansC (stepOk [] 8 a b n) (stepSize [] 8) (stepWord [] 8 a) (.slice rb (stepRead [] 8 a n).length (stepRead [] 8 a n).length)).toArray] w fun e w' =>
      e = .returned (.bool true) ∧ ∃ words', WRel words' (stepF [] 8 a b n f) ∧ WPost B T w w' wv words' := by
  have hWl : (stepWord [] 8 a).length = 32 := stepWord_length
  have hWd : D.Dig (stepWord [] 8 a) := stepWord_dig hF
  have hnn := hra.cases hrb
  have RA := hra.rd
  have RB := hrb.rd
  have HRA : Hid (RdNew m w ra (stepRead [] 8 a n)) := hra
  clear hra hrb
  obtain ⟨ok, HOK⟩ : ∃ ok, Hid (stepOk [] 8 a b n = ok) := ⟨_, rfl⟩
  obtain ⟨sz, HSZ⟩ : ∃ sz, Hid (stepSize [] 8 = sz) := ⟨_, rfl⟩
  obtain ⟨W, HW⟩ : ∃ W, Hid (stepWord [] 8 a = W) := ⟨_, rfl⟩
  obtain ⟨r, HR⟩ : ∃ r, Hid (stepRead [] 8 a n = r) := ⟨_, rfl⟩
  obtain ⟨rl, HRL⟩ : ∃ rl, Hid (r.length = rl) := ⟨_, rfl⟩
  rw [HW.out] at hWl hWd
  rw [HR.out, HRL.out] at RA RB
  rw [HOK.out, HSZ.out, HW.out, HR.out, HRL.out]
  go_enter Safg.func19, Safg.ntmps19
  go_upto_region 1 with (first | (refine wpList_box_agg rfl 49 (.tmp 1) rfl (opC 8 a b n f) rfl ?_; intro w1 g5 hg5 k5 b1) | (refine wpList_box_agg rfl 52 (.tmp 2) rfl _ rfl ?_; intro w2 g6 hg6 k6 b2) | (refine wpList_box_agg rfl 52 (.tmp 3) rfl _ rfl ?_; intro w3 g7 hg7 k7 b3))
  have k6' := k6.below b3 k6.lt
  have k5' := (k5.below b2 k5.lt).below b3 (Nat.lt_of_lt_of_le k5.lt b2.size)
  have b03 : Below w.heap.size w w3 := (b1.trans (b2.mono b1.size)).trans (b3.mono (Nat.le_trans b1.size b2.size))
  have HS := same_true w3 ok sz W r ra rb rl hWl hWd (RA.below b03) (RB.below b03) hnn
  have hlT := hw.lt
  have hs01 := b1.size
  have hs02 := b2.size
  clear k5 k6 b1 b2 b3 RA RB hnn
  go_upto_region 3 with (first | (refine wpList_load_agg rfl 52 (.tmp 6) rfl g6 rfl _ k6' _ Safg.underlying52 (size52c hWl) ?_) | (refine wpList_load_agg rfl 52 (.tmp 7) rfl g7 rfl _ k7 _ Safg.underlying52 (size52c hWl) ?_) | (go_at_call 62; refine HS.mono ?_; rintro e w4 ⟨rfl, b4⟩; have b04 : Below w.heap.size w w4 := b03.trans (b4.mono b03.size); have HCK := aCheck w4 B T bv buf base F' (har.below b04)) | (go_at_call 61; refine HCK.mono ?_; rintro e w5 ⟨rfl, s5⟩))
  have b05 : Below w.heap.size w w5 := b04.trans (s5.below _)
  have j5 := s5.blk (k5'.below b4 k5'.lt)
  have j6 := s5.blk (k6'.below b4 k6'.lt)
  have hw5 := hw.below b05
  have hlT5 := hw5.lt
  have hsz5 := b05.size
  have c50 := j5.get (j := 0) (v := .int .u8 ((8 : Nat) : Int)) rfl
  have c60 := j6.get (ansC_0 _ _ _ _)
  have BB : Hid (Below w.heap.size w w5) := b05
  clear HS HCK b03 b04 b05 b4 s5 k5' k6' k7
  have hwn : words = [] := List.eq_nil_of_length_eq_zero hrel.len
  subst hwn
  obtain ⟨fa, fc, rfl, _, _⟩ := hw5.len_of
  have c11 := hw5.c11
  have HWD : Hid (Wd B T w5 (.slice fa 0 fc) []) := hw5
  have hnb6 : g6 ∉ (Value.slice fa 0 fc).ownBlock.toList := by
    intro hm
    simp only [Option.mem_toList] at hm
    have := (hw.vec.block_lt hm).1
    omega
  clear hw5 hw hrel
  have q30 := nenil30
  have c634 := j6.get (ansC_34 hWl)
  have c51 := j5.get (j := 1) (v := .int .u32 (a : Int)) rfl
  have c53 := j5.get (j := 3) (v := .int .u32 (n : Int)) rfl
  obtain rfl : ra = none := HRA.out.nil rfl
  by_cases h0 : n = 0
  · subst h0
    go_upto_region 23 with fail
    go_quiet (fail)
    go_wp2_with fail
    go_ret
    exact ⟨rfl, [], WRel.nil.same (step_len (by decide)), (HWD.out.grew ((Same.drewN _ _).below _)).after hlT BB.out⟩
  · have t0 : decide (0 < (n : Int)) = true := decide_eq_true (by omega)
    have t0n : decide (0 < n) = true := decide_eq_true (by omega)
    have t0p : 0 < n := by omega
    go_upto_region 23 with fail
    go_quiet (fail)
    go_wp2_with fail
    go_ret
    exact ⟨rfl, [], WRel.nil.same (step_len (by decide)), (HWD.out.grew ((Same.drewN _ _).below _)).after hlT BB.out⟩


set_option maxRecDepth 100000 in
set_option maxHeartbeats 4000000 in
theorem judge_8_some (w : World) (B T : Nat) (bv : Value) (buf base : List Nat) (G : List (List Nat)) (t : List Nat) (F' : List (List Nat)) (har : ArF B T w bv buf base F') (wv : Value) (words : List Nat) (hw : Wd B T w wv words) (hrel : WRel words (G ++ [t])) (hF : FOk (G ++ [t])) (hBw : B ≤ w.heap.size)
    (a b n f : Nat) (ha : a < 4294967296) (hb : b < 4294967296) (hn : n < 4294967296) (ra rb : Option Addr) (m m' : Nat) (hra : RdNew m w ra (stepRead (G ++ [t]) 8 a n)) (hrb : RdNew m' w rb (stepRead (G ++ [t]) 8 a n)) :
    Calls Safg.prog 19 #[.pointer (some ⟨T, 0, none⟩), .agg (opC 8 a b n f).toArray, .agg (ansC (stepOk (G ++ [t]) 8 a b n) (stepSize (G ++ [t]) 8) (stepWord (G ++ [t]) 8 a) (.slice ra (stepRead (G ++ [t]) 8 a n).length (stepRead (G ++ [t]) 8 a n).length)).toArray, .agg (ansC (stepOk (G ++ [t]) 8 a b n) (stepSize (G ++ [t]) 8) (stepWord (G ++ [t]) 8 a) (.slice rb (stepRead (G ++ [t]) 8 a n).length (stepRead (G ++ [t]) 8 a n).length)).toArray] w fun e w' =>
      e = .returned (.bool true) ∧ ∃ words', WRel words' (stepF (G ++ [t]) 8 a b n f) ∧ WPost B T w w' wv words' := by
  have hWl : (stepWord (G ++ [t]) 8 a).length = 32 := stepWord_length
  have hWd : D.Dig (stepWord (G ++ [t]) 8 a) := stepWord_dig hF
  have hnn := hra.cases hrb
  have RA := hra.rd
  have RB := hrb.rd
  have HRA : Hid (RdNew m w ra (stepRead (G ++ [t]) 8 a n)) := hra
  clear hra hrb
  obtain ⟨ok, HOK⟩ : ∃ ok, Hid (stepOk (G ++ [t]) 8 a b n = ok) := ⟨_, rfl⟩
  obtain ⟨sz, HSZ⟩ : ∃ sz, Hid (stepSize (G ++ [t]) 8 = sz) := ⟨_, rfl⟩
  obtain ⟨W, HW⟩ : ∃ W, Hid (stepWord (G ++ [t]) 8 a = W) := ⟨_, rfl⟩
  obtain ⟨r, HR⟩ : ∃ r, Hid (stepRead (G ++ [t]) 8 a n = r) := ⟨_, rfl⟩
  obtain ⟨rl, HRL⟩ : ∃ rl, Hid (r.length = rl) := ⟨_, rfl⟩
  rw [HW.out] at hWl hWd
  rw [HR.out, HRL.out] at RA RB
  rw [HOK.out, HSZ.out, HW.out, HR.out, HRL.out]
  go_enter Safg.func19, Safg.ntmps19
  go_upto_region 1 with (first | (refine wpList_box_agg rfl 49 (.tmp 1) rfl (opC 8 a b n f) rfl ?_; intro w1 g5 hg5 k5 b1) | (refine wpList_box_agg rfl 52 (.tmp 2) rfl _ rfl ?_; intro w2 g6 hg6 k6 b2) | (refine wpList_box_agg rfl 52 (.tmp 3) rfl _ rfl ?_; intro w3 g7 hg7 k7 b3))
  have k6' := k6.below b3 k6.lt
  have k5' := (k5.below b2 k5.lt).below b3 (Nat.lt_of_lt_of_le k5.lt b2.size)
  have b03 : Below w.heap.size w w3 := (b1.trans (b2.mono b1.size)).trans (b3.mono (Nat.le_trans b1.size b2.size))
  have HS := same_true w3 ok sz W r ra rb rl hWl hWd (RA.below b03) (RB.below b03) hnn
  have hlT := hw.lt
  have hs01 := b1.size
  have hs02 := b2.size
  clear k5 k6 b1 b2 b3 RA RB hnn
  go_upto_region 3 with (first | (refine wpList_load_agg rfl 52 (.tmp 6) rfl g6 rfl _ k6' _ Safg.underlying52 (size52c hWl) ?_) | (refine wpList_load_agg rfl 52 (.tmp 7) rfl g7 rfl _ k7 _ Safg.underlying52 (size52c hWl) ?_) | (go_at_call 62; refine HS.mono ?_; rintro e w4 ⟨rfl, b4⟩; have b04 : Below w.heap.size w w4 := b03.trans (b4.mono b03.size); have HCK := aCheck w4 B T bv buf base F' (har.below b04)) | (go_at_call 61; refine HCK.mono ?_; rintro e w5 ⟨rfl, s5⟩))
  have b05 : Below w.heap.size w w5 := b04.trans (s5.below _)
  have j5 := s5.blk (k5'.below b4 k5'.lt)
  have j6 := s5.blk (k6'.below b4 k6'.lt)
  have hw5 := hw.below b05
  have hlT5 := hw5.lt
  have hsz5 := b05.size
  have c50 := j5.get (j := 0) (v := .int .u8 ((8 : Nat) : Int)) rfl
  have c60 := j6.get (ansC_0 _ _ _ _)
  have BB : Hid (Below w.heap.size w w5) := b05
  clear HS HCK b03 b04 b05 b4 s5 k5' k6' k7
  obtain ⟨ws, x, rfl, hrel2, hx⟩ := hrel.last
  have hlr := hrel2.len
  obtain ⟨gw, cap, rfl, cw, fw, hgT, hcap, hcm, hgl, hBg, _⟩ := hw5.top
  have c11 := hw5.c11
  have HWD : Hid (Wd B T w5 (.slice (some ⟨gw, 0, none⟩) (ws.length + 1) cap) (ws ++ [x])) := hw5
  have hgw0 := (hw.vec.block_lt (g := gw) rfl).1
  have hgw6 : gw ≠ g6 := by omega
  have hgw5 : gw ≠ g5 := by omega
  have hnb6 : g6 ∉ (Value.slice (some ⟨gw, 0, none⟩) (ws.length + 1) cap).ownBlock.toList := by simp [Value.ownBlock]; omega
  have HREL : Hid (WRel ws G ∧ 32 * x = t.length) := ⟨hrel2, hx⟩
  have tl := hF.low t (by simp)
  have few := hF.few
  have hk7 : ws.length ≤ 6 := by simp at few; omega
  unfold u32V at cw
  have HMM : Hid (G.length = ws.length) := hlr.symm
  have hx1 : x ≤ 22415 := by omega
  have hml : maxLen = 9223372036854775807 := rfl
  clear hw5 hw hrel hrel2 hlr few hx
  have q30 := nenil30
  have c634 := j6.get (ansC_34 hWl)
  have c51 := j5.get (j := 1) (v := .int .u32 (a : Int)) rfl
  have c53 := j5.get (j := 3) (v := .int .u32 (n : Int)) rfl
  have FR : Hid (WRel (ws ++ [x]) (stepF (G ++ [t]) 8 a b n f)) := (HREL.out.1.push HREL.out.2).same (step_len (by decide))
  by_cases h0 : n = 0
  · subst h0
    have hr0 : readF (G ++ [t]) a 0 = [] := by
      unfold readF
      split
      · simp [subL]
      · rfl
    obtain rfl : ra = none := HRA.out.nil hr0
    generalize ws.length = K at *
    go_upto_region 23 with fail
    go_quiet (fail)
    go_wp2_with fail
    go_ret
    exact ⟨rfl, _, FR.out, (HWD.out.grew ((Same.drewN _ _).below _)).after hlT BB.out⟩
  · have t0 : decide (0 < (n : Int)) = true := decide_eq_true (by omega)
    have t0n : decide (0 < n) = true := decide_eq_true (by omega)
    have t0p : 0 < n := by omega
    have HWI := within_any w5.drew a n (32 * x) ha hn (by omega)
    have hc32 : ((32 * x : Nat) : Int) = 32 * (x : Int) := by omega
    rw [hc32] at HWI
    obtain ⟨p, HP⟩ : ∃ p, Hid (decide (a + n ≤ 32 * x) = p) := ⟨_, rfl⟩
    rw [HP.out] at HWI
    have hhas : hasF (G ++ [t]) a n = p := by rw [hasF_app, ← HREL.out.2, HP.out]
    have hra : (!ra.isNone) = p := by
      cases p with
      | false =>
        rw [HRA.out.nil (readF_no hhas)]; rfl
      | true =>
        have hl := readF_len hhas
        cases hra : ra with
        | some y => rfl
        | none =>
          exfalso
          have hlen : 0 < (stepRead (G ++ [t]) 8 a n).length := by show 0 < (readF (G ++ [t]) a n).length; omega
          obtain ⟨b', o', e', _⟩ := HRA.out.rd.cell 0 hlen
          rw [hra] at e'
          cases e'
    have HK0 : Hid ((fun w' => w'.cell? ⟨g6, 34, none⟩ = some (.slice ra rl rl) ∧ w'.cell? ⟨g5, 1, none⟩ = some (.int .u32 (a : Int)) ∧ w'.cell? ⟨g5, 3, none⟩ = some (.int .u32 (n : Int))) w5.drew) := ⟨c634, c51, c53⟩
    clear hhas hc32
    generalize ws.length = K at *
    have t26 : decide (0 < (K : Int) + 1) = true := decide_eq_true (by omega)
    have q30' : (binOp .neq 30 (.slice ra rl rl) (.slice none 0 0)).run Safg.prog w5.drew = .ok (.bool p) w5.drew := by rw [q30, hra]
    have q30a : ∀ w', (binOp .neq 30 (.slice ra rl rl) (.slice none 0 0)).run Safg.prog w' = .ok (.bool p) w' := fun w' => by rw [q30, hra]
    clear hra q30 q30'
    go_upto_region 23 with fail
    go_region_held3 (fun w' => w'.cell? ⟨g6, 34, none⟩ = some (.slice ra rl rl) ∧ w'.cell? ⟨g5, 1, none⟩ = some (.int .u32 (a : Int)) ∧ w'.cell? ⟨g5, 3, none⟩ = some (.int .u32 (n : Int)))
      (first | exact HK0.out)
      (first | (go_at_call 63; refine HWI.mono ?_; rintro e w6 ⟨rfl, hw6⟩; subst hw6))
    all_goals (
      go_wp2
      go_ret
      exact ⟨by cases p <;> rfl, _, FR.out, (HWD.out.grew ((Same.drew _).below _)).after hlT BB.out⟩)


theorem judge_any (w : World) (B T : Nat) (bv : Value) (buf base : List Nat) (F F' : List (List Nat)) (har : ArF B T w bv buf base F') (wv : Value) (words : List Nat) (hw : Wd B T w wv words) (hrel : WRel words F) (hF : FOk F) (hBw : B ≤ w.heap.size)
    (k a b n f : Nat) (hk : k ≤ 10) (ha : a < 4294967296) (hb : b < 4294967296) (hn : n < 4294967296) (ra rb : Option Addr) (m m' : Nat) (hra : RdNew m w ra (stepRead F k a n)) (hrb : RdNew m' w rb (stepRead F k a n)) :
    Calls Safg.prog 19 #[.pointer (some ⟨T, 0, none⟩), .agg (opC k a b n f).toArray, .agg (ansC (stepOk F k a b n) (stepSize F k) (stepWord F k a) (.slice ra (stepRead F k a n).length (stepRead F k a n).length)).toArray, .agg (ansC (stepOk F k a b n) (stepSize F k) (stepWord F k a) (.slice rb (stepRead F k a n).length (stepRead F k a n).length)).toArray] w fun e w' =>
      e = .returned (.bool true) ∧ ∃ words', WRel words' (stepF F k a b n f) ∧ WPost B T w w' wv words' := by
  rcases split_last F with rfl | ⟨G, t, rfl⟩
  · obtain rfl | rfl | rfl | rfl | rfl | rfl | rfl | rfl | rfl | rfl | rfl : k = 0 ∨ k = 1 ∨ k = 2 ∨ k = 3 ∨ k = 4 ∨ k = 5 ∨ k = 6 ∨ k = 7 ∨ k = 8 ∨ k = 9 ∨ k = 10 := by omega
    · exact judge_0_none w B T bv buf base F' har wv words hw hrel hF hBw a b n f ha hb hn ra rb m m' hra hrb
    · exact judge_1_none w B T bv buf base F' har wv words hw hrel hF hBw a b n f ha hb hn ra rb m m' hra hrb
    · exact judge_2_none w B T bv buf base F' har wv words hw hrel hF hBw a b n f ha hb hn ra rb m m' hra hrb
    · exact judge_3_none w B T bv buf base F' har wv words hw hrel hF hBw a b n f ha hb hn ra rb m m' hra hrb
    · exact judge_4_none w B T bv buf base F' har wv words hw hrel hF hBw a b n f ha hb hn ra rb m m' hra hrb
    · exact judge_5_none w B T bv buf base F' har wv words hw hrel hF hBw a b n f ha hb hn ra rb m m' hra hrb
    · exact judge_6_none w B T bv buf base F' har wv words hw hrel hF hBw a b n f ha hb hn ra rb m m' hra hrb
    · exact judge_7_none w B T bv buf base F' har wv words hw hrel hF hBw a b n f ha hb hn ra rb m m' hra hrb
    · exact judge_8_none w B T bv buf base F' har wv words hw hrel hF hBw a b n f ha hb hn ra rb m m' hra hrb
    · exact judge_9_none w B T bv buf base F' har wv words hw hrel hF hBw a b n f ha hb hn ra rb m m' hra hrb
    · exact judge_10_none w B T bv buf base F' har wv words hw hrel hF hBw a b n f ha hb hn ra rb m m' hra hrb
  · obtain rfl | rfl | rfl | rfl | rfl | rfl | rfl | rfl | rfl | rfl | rfl : k = 0 ∨ k = 1 ∨ k = 2 ∨ k = 3 ∨ k = 4 ∨ k = 5 ∨ k = 6 ∨ k = 7 ∨ k = 8 ∨ k = 9 ∨ k = 10 := by omega
    · exact judge_0_some w B T bv buf base G t F' har wv words hw hrel hF hBw a b n f ha hb hn ra rb m m' hra hrb
    · exact judge_1_some w B T bv buf base G t F' har wv words hw hrel hF hBw a b n f ha hb hn ra rb m m' hra hrb
    · exact judge_2_some w B T bv buf base G t F' har wv words hw hrel hF hBw a b n f ha hb hn ra rb m m' hra hrb
    · exact judge_3_some w B T bv buf base G t F' har wv words hw hrel hF hBw a b n f ha hb hn ra rb m m' hra hrb
    · exact judge_4_some w B T bv buf base G t F' har wv words hw hrel hF hBw a b n f ha hb hn ra rb m m' hra hrb
    · exact judge_5_some w B T bv buf base G t F' har wv words hw hrel hF hBw a b n f ha hb hn ra rb m m' hra hrb
    · exact judge_6_some w B T bv buf base G t F' har wv words hw hrel hF hBw a b n f ha hb hn ra rb m m' hra hrb
    · exact judge_7_some w B T bv buf base G t F' har wv words hw hrel hF hBw a b n f ha hb hn ra rb m m' hra hrb
    · exact judge_8_some w B T bv buf base G t F' har wv words hw hrel hF hBw a b n f ha hb hn ra rb m m' hra hrb
    · exact judge_9_some w B T bv buf base G t F' har wv words hw hrel hF hBw a b n f ha hb hn ra rb m m' hra hrb
    · exact judge_10_some w B T bv buf base G t F' har wv words hw hrel hF hBw a b n f ha hb hn ra rb m m' hra hrb

end Go.Proofs.Ygcsaf
