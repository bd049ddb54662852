import Derived.Test.YgcsafYpIntr
namespace Go.Proofs.Ygcsaf
open Go.RowKit
set_option linter.unusedVariables false
set_option linter.unusedSimpArgs false
attribute [local go_sem ↓] Go.wp_at_zero Go.wp_at_succ

set_option maxRecDepth 100000 in
set_option maxHeartbeats 1000000 in
theorem intrinsicHolds_true (w : World) (cs : List Value) (cr : Bool) (da : Option Addr) (dc : Nat) (Dt : List Nat) (aa : Option Addr) (ac : Nat) (K : List Nat) (h : Tx w cs cr da dc Dt aa ac K) :
    Calls Safg.prog 15 #[.agg cs.toArray, .int .u64 ((gas cr Dt K : Nat) : Int)] w fun e w' => e = .returned (.bool true) ∧ Below w.heap.size w w' := by
  have hgl := gas_lt (cr := cr) h.dl h.kl h.keys
  have HG : Hid (gas cr Dt K = gas cr Dt K) := rfl
  generalize hgg : gas cr Dt K = G at *
  have HGG : Hid (gas cr Dt K = G) := hgg
  clear hgg HG
  go_enter Safg.func15, Safg.ntmps15
  go_upto_region 1 with (refine wpList_box_agg rfl 33 _ rfl cs rfl ?_; intro w1 g hg k1 b1)
  have h1 := h.below b1
  go_wp2_with (first | (refine wpList_load_agg rfl 33 _ rfl g rfl cs k1 _ Safg.underlying33 (by rw [h.len]; exact Safg.size33) ?_) | (go_at_call 49; refine (ypIntrinsic_any _ cs cr da dc Dt aa ac K h1).mono ?_; rintro e w2 ⟨a2, l2, rfl, m2, v2, n2, b2⟩) | (go_at_call 44; refine (sameGas_any _ G hgl _ l2 m2.rd (by omega)).mono ?_; rintro e w3 ⟨rfl, b3⟩))
  go_ret
  refine ⟨ret_bool (decide_eq_true (by rw [HGG.out])), (b1.trans (b2.mono b1.size)).trans (b3.mono (by have := b1.size; have := b2.size; omega))⟩

theorem keepR {w6 wc wn : World} {g : Nat} {cs : List Value} (hp : g < w6.heap.size) (hb : Below wc.heap.size wc wn) (hS : wc.rangeAt g 0 cs ∧ Below w6.heap.size w6 wc) : wn.rangeAt g 0 cs ∧ Below w6.heap.size w6 wn :=
  ⟨fun j v hv => by rw [hb.cell (p := ⟨g, 0 + j, none⟩) (Nat.lt_of_lt_of_le hp hS.2.size)]; exact hS.1 j v hv, hS.2.trans (hb.mono hS.2.size)⟩

/-- A transaction as it came in. -/
structure Tx0 (w : World) (cs : List Value) (cr : Bool) (da : Option Addr) (dc : Nat) (Dt : List Nat) (aa : Option Addr) (ac : Nat) (K : List Nat) : Prop where
  len : cs.length = 174
  c40 : cs[40]? = some (.bool cr)
  c107 : cs[107]? = some (.slice da Dt.length dc)
  c173 : cs[173]? = some (.slice aa K.length ac)
  data : Rd w da Dt.length Dt
  acc : Acc w aa K
  dl : Dt.length ≤ dc
  dc : dc ≤ 9223372036854775807
  kl : K.length ≤ ac
  kc : ac ≤ 9223372036854775807
  keys : ∀ i, K.getD i 0 ≤ 4398046511104
theorem Acc.take {w : World} {aa : Option Addr} {K : List Nat} (h : Acc w aa K) (n : Nat) : Acc w aa (K.take n) := by
  intro i hi
  have h1 : i < n := by simp at hi; omega
  have h2 : i < K.length := by simp at hi; omega
  have := h i h2
  rwa [D.getD_take h1]

theorem Rd.cut {w : World} {a : Option Addr} {len : Nat} {l : List Nat} (h : Rd w a len l) {k : Nat} (hk : k ≤ len) : Rd w a (l.take k).length (l.take k) := by
  have e : (l.take k).length = k := by have := h.length; simp; omega
  rw [e]; exact h.take hk

theorem keys17 {K : List Nat} (h : ∀ i, K.getD i 0 ≤ 4398046511104) : ∀ i, (K.take 17).getD i 0 ≤ 4398046511104 := fun i => by
  by_cases hh : i < 17
  · rw [D.getD_take hh]; exact h i
  · have e : (K.take 17).length ≤ i := by simp; omega
    have : (K.take 17).getD i 0 = 0 := by simp only [List.getD_eq_getElem?_getD, List.getElem?_eq_none e, Option.getD_none]
    omega

set_option maxRecDepth 100000 in
set_option maxHeartbeats 2000000 in
theorem intrinsicSame_true (w : World) (cs : List Value) (cr : Bool) (da : Option Addr) (dc : Nat) (Dt : List Nat) (aa : Option Addr) (ac : Nat) (K : List Nat) (h : Tx0 w cs cr da dc Dt aa ac K) :
    Calls Safg.prog 4 #[.agg cs.toArray] w fun e w' => e = .returned (.bool true) ∧ Below w.heap.size w w' := by
  have hdl := h.dl
  have hdc := h.dc
  have hkl := h.kl
  have hkc := h.kc
  go_enter Safg.func4, Safg.ntmps4
  go_upto_region 1 with (refine wpList_box_agg rfl 33 _ rfl cs rfl ?_; intro w1 g hg k1 b1)
  have f107 := k1.get h.c107
  have z107 := k1.free 107
  have z173 := k1.free 173
  by_cases hd : 1025 < Dt.length
  · have hset := k1.set (k := 107) (by rw [h.len]; omega) (.slice da 1025 1025)
    have bs : Below w.heap.size w (w1.setCell ⟨g, 107, none⟩ (.slice da 1025 1025)) := b1.setCell hg _
    have f173 := hset.get (j := 173) (v := .slice aa K.length ac) (by rw [List.getElem?_set_ne (by omega)]; exact h.c173)
    by_cases hk : 17 < K.length
    · have hset2 := hset.set (k := 173) (by rw [List.length_set, h.len]; omega) (.slice aa 17 17)
      have bs2 : Below w.heap.size w ((w1.setCell ⟨g, 107, none⟩ (.slice da 1025 1025)).setCell ⟨g, 173, none⟩ (.slice aa 17 17)) := bs.setCell hg _
      go_upto_region 5 with fail
      have htx : Tx ((w1.setCell ⟨g, 107, none⟩ (.slice da 1025 1025)).setCell ⟨g, 173, none⟩ (.slice aa 17 17)) ((cs.set 107 (.slice da 1025 1025)).set 173 (.slice aa 17 17)) cr da 1025 (Dt.take 1025) aa 17 (K.take 17) := ⟨by simp [h.len], by rw [List.getElem?_set_ne (by omega)]; rw [List.getElem?_set_ne (by omega)]; exact h.c40, by rw [List.getElem?_set_ne (by omega)]; rw [List.getElem?_set_self (by rw [h.len]; omega), (show (Dt.take 1025).length = 1025 by simp; omega)], by rw [List.getElem?_set_self (by rw [List.length_set, h.len]; omega), (show (K.take 17).length = 17 by simp; omega)], (h.data.below bs2).cut (k := 1025) (by omega), (h.acc.below bs2).take 17, by rw [(show (Dt.take 1025).length = 1025 by simp; omega)]; omega, by rw [(show (K.take 17).length = 17 by simp; omega)]; omega, keys17 h.keys⟩
      have kW : Blk ((w1.setCell ⟨g, 107, none⟩ (.slice da 1025 1025)).setCell ⟨g, 173, none⟩ (.slice aa 17 17)) g ((cs.set 107 (.slice da 1025 1025)).set 173 (.slice aa 17 17)) := hset2
      have bW : Below w.heap.size w ((w1.setCell ⟨g, 107, none⟩ (.slice da 1025 1025)).setCell ⟨g, 173, none⟩ (.slice aa 17 17)) := bs2
      generalize ((cs.set 107 (.slice da 1025 1025)).set 173 (.slice aa 17 17)) = CS at htx kW
      have hgW := kW.lt
      have hi : (Safg.prog.info? 33).map (·.size) = some CS.length := by rw [htx.len]; exact Safg.size33
      generalize hWW : ((w1.setCell ⟨g, 107, none⟩ (.slice da 1025 1025)).setCell ⟨g, 173, none⟩ (.slice aa 17 17)) = W at htx kW hgW bW
      clear hWW
      refine wp_region_noPanic ?_
      refine wp_region_held_drew (S := fun w' => w'.rangeAt g 0 CS ∧ Below W.heap.size W w') (by kernel_rfl) ⟨kW.cell, (Below.refl _ _).drew⟩ (fun hHeld => ?_)
      refine wpAnyH_take (i := 0) (v := .agg CS.toArray) rfl (by kernel_rfl) (by kernel_rfl) (by kernel_rfl) (fun _ _ _ h => h) (yieldsIf_load_mid (by rfl) 33 _ rfl g 0 rfl CS _ (fun w hw => hw.1) Safg.underlying33 rfl hi) hHeld ?_
      simp only [Act.put, List.setIfInBounds_toArray, List.set_cons_zero, List.set_cons_succ]
      refine wpAnyH_take (i := 1) (v := .agg CS.toArray) rfl (by kernel_rfl) (by kernel_rfl) (by kernel_rfl) (fun _ _ _ h => h) (yieldsIf_load_mid (by rfl) 33 _ rfl g 0 rfl CS _ (fun w hw => hw.1) Safg.underlying33 rfl hi) hHeld ?_
      simp only [Act.put, List.setIfInBounds_toArray, List.set_cons_zero, List.set_cons_succ]
      refine wpAnyH_ready (rs := [2]) (by kernel_rfl) (by simp) ?_
      refine AllReadyH.cons rfl (fun K' hK => ?_) AllReadyH.nil
      go_simp
      refine (machIntrinsic_any _ CS cr da 1025 (Dt.take 1025) aa 17 (K.take 17) (htx.below ((Below.refl _ _).drew))).mono ?_
      rintro e w7 ⟨rfl, b7⟩
      refine hK.out _ _ (keepR hgW b7 hHeld) (fun hHeld2 => ?_)
      clear hK K'
      refine wpAnyH_ready (rs := [3]) (by kernel_rfl) (by simp) ?_
      refine AllReadyH.cons rfl (fun K' hK => ?_) AllReadyH.nil
      go_simp
      refine (intrinsicHolds_true _ CS cr da 1025 (Dt.take 1025) aa 17 (K.take 17) ((htx.below ((Below.refl _ _).drew)).below b7)).mono ?_
      rintro e w8 ⟨rfl, b8⟩
      refine hK.out _ _ (keepR (by exact hgW) b8 hHeld2) (fun hHeld3 => ?_)
      clear hK K'
      refine wpAnyH_ready (rs := [4]) (by kernel_rfl) (by simp) ?_
      refine AllReadyH.cons rfl (fun K' hK => ?_) AllReadyH.nil
      go_simp
      refine hK.out _ _ hHeld3 (fun hHeld4 => ?_)
      clear hK K'
      refine wpAnyH_done (by kernel_rfl) ?_ _
      refine NoPanic.normal ?_
      go_wp2
      go_ret
      exact ⟨rfl, bW.trans (hHeld4.2.mono bW.size)⟩
    · go_upto_region 5 with fail
      have htx : Tx (w1.setCell ⟨g, 107, none⟩ (.slice da 1025 1025)) (cs.set 107 (.slice da 1025 1025)) cr da 1025 (Dt.take 1025) aa ac K := ⟨by simp [h.len], by rw [List.getElem?_set_ne (by omega)]; exact h.c40, by rw [List.getElem?_set_self (by rw [h.len]; omega), (show (Dt.take 1025).length = 1025 by simp; omega)], by rw [List.getElem?_set_ne (by omega)]; exact h.c173, (h.data.below bs).cut (k := 1025) (by omega), h.acc.below bs, by rw [(show (Dt.take 1025).length = 1025 by simp; omega)]; omega, by omega, h.keys⟩
      have kW : Blk (w1.setCell ⟨g, 107, none⟩ (.slice da 1025 1025)) g (cs.set 107 (.slice da 1025 1025)) := hset
      have bW : Below w.heap.size w (w1.setCell ⟨g, 107, none⟩ (.slice da 1025 1025)) := bs
      generalize (cs.set 107 (.slice da 1025 1025)) = CS at htx kW
      have hgW := kW.lt
      have hi : (Safg.prog.info? 33).map (·.size) = some CS.length := by rw [htx.len]; exact Safg.size33
      generalize hWW : (w1.setCell ⟨g, 107, none⟩ (.slice da 1025 1025)) = W at htx kW hgW bW
      clear hWW
      refine wp_region_noPanic ?_
      refine wp_region_held_drew (S := fun w' => w'.rangeAt g 0 CS ∧ Below W.heap.size W w') (by kernel_rfl) ⟨kW.cell, (Below.refl _ _).drew⟩ (fun hHeld => ?_)
      refine wpAnyH_take (i := 0) (v := .agg CS.toArray) rfl (by kernel_rfl) (by kernel_rfl) (by kernel_rfl) (fun _ _ _ h => h) (yieldsIf_load_mid (by rfl) 33 _ rfl g 0 rfl CS _ (fun w hw => hw.1) Safg.underlying33 rfl hi) hHeld ?_
      simp only [Act.put, List.setIfInBounds_toArray, List.set_cons_zero, List.set_cons_succ]
      refine wpAnyH_take (i := 1) (v := .agg CS.toArray) rfl (by kernel_rfl) (by kernel_rfl) (by kernel_rfl) (fun _ _ _ h => h) (yieldsIf_load_mid (by rfl) 33 _ rfl g 0 rfl CS _ (fun w hw => hw.1) Safg.underlying33 rfl hi) hHeld ?_
      simp only [Act.put, List.setIfInBounds_toArray, List.set_cons_zero, List.set_cons_succ]
      refine wpAnyH_ready (rs := [2]) (by kernel_rfl) (by simp) ?_
      refine AllReadyH.cons rfl (fun K' hK => ?_) AllReadyH.nil
      go_simp
      refine (machIntrinsic_any _ CS cr da 1025 (Dt.take 1025) aa ac K (htx.below ((Below.refl _ _).drew))).mono ?_
      rintro e w7 ⟨rfl, b7⟩
      refine hK.out _ _ (keepR hgW b7 hHeld) (fun hHeld2 => ?_)
      clear hK K'
      refine wpAnyH_ready (rs := [3]) (by kernel_rfl) (by simp) ?_
      refine AllReadyH.cons rfl (fun K' hK => ?_) AllReadyH.nil
      go_simp
      refine (intrinsicHolds_true _ CS cr da 1025 (Dt.take 1025) aa ac K ((htx.below ((Below.refl _ _).drew)).below b7)).mono ?_
      rintro e w8 ⟨rfl, b8⟩
      refine hK.out _ _ (keepR (by exact hgW) b8 hHeld2) (fun hHeld3 => ?_)
      clear hK K'
      refine wpAnyH_ready (rs := [4]) (by kernel_rfl) (by simp) ?_
      refine AllReadyH.cons rfl (fun K' hK => ?_) AllReadyH.nil
      go_simp
      refine hK.out _ _ hHeld3 (fun hHeld4 => ?_)
      clear hK K'
      refine wpAnyH_done (by kernel_rfl) ?_ _
      refine NoPanic.normal ?_
      go_wp2
      go_ret
      exact ⟨rfl, bW.trans (hHeld4.2.mono bW.size)⟩
  · by_cases hk : 17 < K.length
    · have f173 := k1.get h.c173
      have hset := k1.set (k := 173) (by rw [h.len]; omega) (.slice aa 17 17)
      have bs : Below w.heap.size w (w1.setCell ⟨g, 173, none⟩ (.slice aa 17 17)) := b1.setCell hg _
      go_upto_region 5 with fail
      have htx : Tx (w1.setCell ⟨g, 173, none⟩ (.slice aa 17 17)) (cs.set 173 (.slice aa 17 17)) cr da dc Dt aa 17 (K.take 17) := ⟨by simp [h.len], by rw [List.getElem?_set_ne (by omega)]; exact h.c40, by rw [List.getElem?_set_ne (by omega)]; exact h.c107, by rw [List.getElem?_set_self (by rw [h.len]; omega), (show (K.take 17).length = 17 by simp; omega)], h.data.below bs, (h.acc.below bs).take 17, by omega, by rw [(show (K.take 17).length = 17 by simp; omega)]; omega, keys17 h.keys⟩
      have kW : Blk (w1.setCell ⟨g, 173, none⟩ (.slice aa 17 17)) g (cs.set 173 (.slice aa 17 17)) := hset
      have bW : Below w.heap.size w (w1.setCell ⟨g, 173, none⟩ (.slice aa 17 17)) := bs
      generalize (cs.set 173 (.slice aa 17 17)) = CS at htx kW
      have hgW := kW.lt
      have hi : (Safg.prog.info? 33).map (·.size) = some CS.length := by rw [htx.len]; exact Safg.size33
      generalize hWW : (w1.setCell ⟨g, 173, none⟩ (.slice aa 17 17)) = W at htx kW hgW bW
      clear hWW
      refine wp_region_noPanic ?_
      refine wp_region_held_drew (S := fun w' => w'.rangeAt g 0 CS ∧ Below W.heap.size W w') (by kernel_rfl) ⟨kW.cell, (Below.refl _ _).drew⟩ (fun hHeld => ?_)
      refine wpAnyH_take (i := 0) (v := .agg CS.toArray) rfl (by kernel_rfl) (by kernel_rfl) (by kernel_rfl) (fun _ _ _ h => h) (yieldsIf_load_mid (by rfl) 33 _ rfl g 0 rfl CS _ (fun w hw => hw.1) Safg.underlying33 rfl hi) hHeld ?_
      simp only [Act.put, List.setIfInBounds_toArray, List.set_cons_zero, List.set_cons_succ]
      refine wpAnyH_take (i := 1) (v := .agg CS.toArray) rfl (by kernel_rfl) (by kernel_rfl) (by kernel_rfl) (fun _ _ _ h => h) (yieldsIf_load_mid (by rfl) 33 _ rfl g 0 rfl CS _ (fun w hw => hw.1) Safg.underlying33 rfl hi) hHeld ?_
      simp only [Act.put, List.setIfInBounds_toArray, List.set_cons_zero, List.set_cons_succ]
      refine wpAnyH_ready (rs := [2]) (by kernel_rfl) (by simp) ?_
      refine AllReadyH.cons rfl (fun K' hK => ?_) AllReadyH.nil
      go_simp
      refine (machIntrinsic_any _ CS cr da dc Dt aa 17 (K.take 17) (htx.below ((Below.refl _ _).drew))).mono ?_
      rintro e w7 ⟨rfl, b7⟩
      refine hK.out _ _ (keepR hgW b7 hHeld) (fun hHeld2 => ?_)
      clear hK K'
      refine wpAnyH_ready (rs := [3]) (by kernel_rfl) (by simp) ?_
      refine AllReadyH.cons rfl (fun K' hK => ?_) AllReadyH.nil
      go_simp
      refine (intrinsicHolds_true _ CS cr da dc Dt aa 17 (K.take 17) ((htx.below ((Below.refl _ _).drew)).below b7)).mono ?_
      rintro e w8 ⟨rfl, b8⟩
      refine hK.out _ _ (keepR (by exact hgW) b8 hHeld2) (fun hHeld3 => ?_)
      clear hK K'
      refine wpAnyH_ready (rs := [4]) (by kernel_rfl) (by simp) ?_
      refine AllReadyH.cons rfl (fun K' hK => ?_) AllReadyH.nil
      go_simp
      refine hK.out _ _ hHeld3 (fun hHeld4 => ?_)
      clear hK K'
      refine wpAnyH_done (by kernel_rfl) ?_ _
      refine NoPanic.normal ?_
      go_wp2
      go_ret
      exact ⟨rfl, bW.trans (hHeld4.2.mono bW.size)⟩
    · have f173 := k1.get h.c173
      go_upto_region 5 with fail
      have htx : Tx w1 (cs) cr da dc Dt aa ac K := ⟨by simp [h.len], h.c40, h.c107, h.c173, h.data.below b1, h.acc.below b1, by omega, by omega, h.keys⟩
      have kW : Blk w1 g (cs) := k1
      have bW : Below w.heap.size w w1 := b1
      generalize (cs) = CS at htx kW
      have hgW := kW.lt
      have hi : (Safg.prog.info? 33).map (·.size) = some CS.length := by rw [htx.len]; exact Safg.size33
      generalize hWW : w1 = W at htx kW hgW bW
      clear hWW
      refine wp_region_noPanic ?_
      refine wp_region_held_drew (S := fun w' => w'.rangeAt g 0 CS ∧ Below W.heap.size W w') (by kernel_rfl) ⟨kW.cell, (Below.refl _ _).drew⟩ (fun hHeld => ?_)
      refine wpAnyH_take (i := 0) (v := .agg CS.toArray) rfl (by kernel_rfl) (by kernel_rfl) (by kernel_rfl) (fun _ _ _ h => h) (yieldsIf_load_mid (by rfl) 33 _ rfl g 0 rfl CS _ (fun w hw => hw.1) Safg.underlying33 rfl hi) hHeld ?_
      simp only [Act.put, List.setIfInBounds_toArray, List.set_cons_zero, List.set_cons_succ]
      refine wpAnyH_take (i := 1) (v := .agg CS.toArray) rfl (by kernel_rfl) (by kernel_rfl) (by kernel_rfl) (fun _ _ _ h => h) (yieldsIf_load_mid (by rfl) 33 _ rfl g 0 rfl CS _ (fun w hw => hw.1) Safg.underlying33 rfl hi) hHeld ?_
      simp only [Act.put, List.setIfInBounds_toArray, List.set_cons_zero, List.set_cons_succ]
      refine wpAnyH_ready (rs := [2]) (by kernel_rfl) (by simp) ?_
      refine AllReadyH.cons rfl (fun K' hK => ?_) AllReadyH.nil
      go_simp
      refine (machIntrinsic_any _ CS cr da dc Dt aa ac K (htx.below ((Below.refl _ _).drew))).mono ?_
      rintro e w7 ⟨rfl, b7⟩
      refine hK.out _ _ (keepR hgW b7 hHeld) (fun hHeld2 => ?_)
      clear hK K'
      refine wpAnyH_ready (rs := [3]) (by kernel_rfl) (by simp) ?_
      refine AllReadyH.cons rfl (fun K' hK => ?_) AllReadyH.nil
      go_simp
      refine (intrinsicHolds_true _ CS cr da dc Dt aa ac K ((htx.below ((Below.refl _ _).drew)).below b7)).mono ?_
      rintro e w8 ⟨rfl, b8⟩
      refine hK.out _ _ (keepR (by exact hgW) b8 hHeld2) (fun hHeld3 => ?_)
      clear hK K'
      refine wpAnyH_ready (rs := [4]) (by kernel_rfl) (by simp) ?_
      refine AllReadyH.cons rfl (fun K' hK => ?_) AllReadyH.nil
      go_simp
      refine hK.out _ _ hHeld3 (fun hHeld4 => ?_)
      clear hK K'
      refine wpAnyH_done (by kernel_rfl) ?_ _
      refine NoPanic.normal ?_
      go_wp2
      go_ret
      exact ⟨rfl, bW.trans (hHeld4.2.mono bW.size)⟩
end Go.Proofs.Ygcsaf
