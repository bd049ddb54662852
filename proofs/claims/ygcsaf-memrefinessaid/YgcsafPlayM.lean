/-
  'playMem' (20): every kind of operation. (Written by a script of the session's.)
-/
import Derived.Test.YgcsafPlayA
namespace Go.Proofs.Ygcsaf
open Go.RowKit
set_option linter.unusedVariables false
set_option linter.unusedSimpArgs false
attribute [local go_sem ↓] Go.wp_at_zero Go.wp_at_succ


set_option maxRecDepth 100000 in
set_option maxHeartbeats 4000000 in
theorem playMem_any_0 (w : World) (B T : Nat) (col : Nat → Nat) (fv : Value) (fvs : List Value) (F : List (List Nat)) (h : Md B T w col fv fvs F) (hF : FOk F) (hcol : ∀ k, w.heap.size ≤ k → col k = 2) (hBw : B ≤ w.heap.size) (a b n f gs : Nat) (ha : a < 4294967296) (hb : b < 4294967296) (hn : n < 4294967296) (hf : f < 256) (os : Own w gs (fillL 40 f)) :
    Calls Safg.prog 20 #[.pointer (some ⟨T, 10, none⟩), .agg (opC 0 a b n f).toArray, .slice (some ⟨gs, 0, none⟩) 40 40, .int .u64 (b : Int)] w fun e w' => ∃ ra, e = .returned (.agg (ansC (stepOk F 0 a b n) (stepSize F 0) (stepWord F 0 a) (.slice ra (stepRead F 0 a n).length (stepRead F 0 a n).length)).toArray) ∧ RdNew w.heap.size w' ra (stepRead F 0 a n) ∧ MPost B T w w' col (stepF F 0 a b n f) := by
  obtain ⟨ok, HOK⟩ : ∃ ok, Hid (decide (F.length < 7) = ok) := ⟨_, rfl⟩
  go_enter Safg.func20, Safg.ntmps20
  go_upto_region 1 with (first | (refine wpList_box_agg rfl 49 _ rfl (opC 0 a b n f) rfl ?_; intro w1 g5 hg5 k5 b1) | (refine wpList_alloc_agg rfl 52 rfl ans0 Safg.zero52 ?_; intro w2 g8 hg8 k8 b2))
  go_upto_region 2 with (refine wpList_alloc_agg rfl 52 rfl ans0 Safg.zero52 ?_; intro w3 g9 hg9 k9 b3)
  have k8' := k8.below b3 k8.lt
  have k5' := (k5.below b2 k5.lt).below b3 (Nat.lt_of_lt_of_le k5.lt b2.size)
  have hs1 := b1.size
  have hs2 := b2.size
  have hs3 := b3.size
  have b3' : Below w.heap.size w w3 := (b1.trans (b2.mono b1.size)).trans (b3.mono (by omega))
  have hl5 := k5.lt
  have hl8 := k8.lt
  have hl9 := k9.lt
  clear b1 b2 b3
  have b3 := b3'
  clear b3'
  have h3 := h.below b3
  have hne89 : g8 ≠ g9 := by omega
  have hne59 : g5 ≠ g9 := by omega
  have c50 := k5'.get (j := 0) (v := .int .u8 ((0 : Nat) : Int)) rfl
  have HC := mEnter w3 B T col fv fvs F h3 hF (Nat.le_trans hBw b3.size)
  rw [HOK.out] at HC
  go_upto_region 27 with (go_at_call 65; refine HC.mono ?_; rintro e w4 ⟨rfl, hpp⟩; have q9 := (hpp.blk hcol k9 (by omega)); have q8 := (hpp.blk hcol k8' (by omega)); have c9 := q9.get (j := 0) (v := .bool false) rfl; have f9 := q9.free 0; have HPP : Hid (_) := hpp; clear hpp)
  have q9s : Blk (w4.setCell ⟨g9, 0, none⟩ (.bool ok)) g9 (ansC ok 0 (List.replicate 32 0) (.slice none 0 0)) := q9.set (by decide) (.bool ok)
  have q8s : Blk (w4.setCell ⟨g9, 0, none⟩ (.bool ok)) g8 ans0 := q8.far hne89
  have o9 := (Only.refl g9 w4).setCell 0 (.bool ok)
  generalize w4.setCell ⟨g9, 0, none⟩ (.bool ok) = w5 at *
  go_wp2_with (first | (refine wpList_load_agg rfl 52 _ rfl g9 rfl _ q9s _ Safg.underlying52 (size52c (by simp)) ?_) | (refine wpList_store_agg rfl 52 _ _ rfl g8 rfl _ _ rfl q8s (ans0_len (by simp)) Safg.size52a ansC_one ?_; intro w6 q86 o8))
  have hpp := HPP.out
  refine bodyPost_ret (results_cell1 Safg.results20 _ w6 g8 _ _ rfl q86 Safg.underlying52 rfl (size52c (by simp))) rfl ⟨none, by rw [← HOK.out]; rfl, RdNew.nothing _ _, MPost.end_ h.lt hcol b3 hpp (two_turn o9 o8) (by intro i hi; simp at hi; rcases hi with rfl | rfl <;> omega)⟩


set_option maxRecDepth 100000 in
set_option maxHeartbeats 4000000 in
theorem playMem_any_1 (w : World) (B T : Nat) (col : Nat → Nat) (fv : Value) (fvs : List Value) (F : List (List Nat)) (h : Md B T w col fv fvs F) (hF : FOk F) (hcol : ∀ k, w.heap.size ≤ k → col k = 2) (hBw : B ≤ w.heap.size) (a b n f gs : Nat) (ha : a < 4294967296) (hb : b < 4294967296) (hn : n < 4294967296) (hf : f < 256) (os : Own w gs (fillL 40 f)) :
    Calls Safg.prog 20 #[.pointer (some ⟨T, 10, none⟩), .agg (opC 1 a b n f).toArray, .slice (some ⟨gs, 0, none⟩) 40 40, .int .u64 (b : Int)] w fun e w' => ∃ ra, e = .returned (.agg (ansC (stepOk F 1 a b n) (stepSize F 1) (stepWord F 1 a) (.slice ra (stepRead F 1 a n).length (stepRead F 1 a n).length)).toArray) ∧ RdNew w.heap.size w' ra (stepRead F 1 a n) ∧ MPost B T w w' col (stepF F 1 a b n f) := by
  obtain ⟨ok, HOK⟩ : ∃ ok, Hid ((!F.isEmpty) = ok) := ⟨_, rfl⟩
  go_enter Safg.func20, Safg.ntmps20
  go_upto_region 1 with (first | (refine wpList_box_agg rfl 49 _ rfl (opC 1 a b n f) rfl ?_; intro w1 g5 hg5 k5 b1) | (refine wpList_alloc_agg rfl 52 rfl ans0 Safg.zero52 ?_; intro w2 g8 hg8 k8 b2))
  go_upto_region 2 with (refine wpList_alloc_agg rfl 52 rfl ans0 Safg.zero52 ?_; intro w3 g9 hg9 k9 b3)
  have k8' := k8.below b3 k8.lt
  have k5' := (k5.below b2 k5.lt).below b3 (Nat.lt_of_lt_of_le k5.lt b2.size)
  have hs1 := b1.size
  have hs2 := b2.size
  have hs3 := b3.size
  have b3' : Below w.heap.size w w3 := (b1.trans (b2.mono b1.size)).trans (b3.mono (by omega))
  have hl5 := k5.lt
  have hl8 := k8.lt
  have hl9 := k9.lt
  clear b1 b2 b3
  have b3 := b3'
  clear b3'
  have h3 := h.below b3
  have hne89 : g8 ≠ g9 := by omega
  have hne59 : g5 ≠ g9 := by omega
  have c50 := k5'.get (j := 0) (v := .int .u8 ((1 : Nat) : Int)) rfl
  have HC := mLeave w3 B T col fv fvs F h3 hF
  rw [HOK.out] at HC
  go_upto_region 27 with (go_at_call 66; refine HC.mono ?_; rintro e w4 ⟨rfl, hpp⟩; have q9 := (hpp.blk hcol k9 (by omega)); have q8 := (hpp.blk hcol k8' (by omega)); have c9 := q9.get (j := 0) (v := .bool false) rfl; have f9 := q9.free 0; have HPP : Hid (_) := hpp; clear hpp)
  have q9s : Blk (w4.setCell ⟨g9, 0, none⟩ (.bool ok)) g9 (ansC ok 0 (List.replicate 32 0) (.slice none 0 0)) := q9.set (by decide) (.bool ok)
  have q8s : Blk (w4.setCell ⟨g9, 0, none⟩ (.bool ok)) g8 ans0 := q8.far hne89
  have o9 := (Only.refl g9 w4).setCell 0 (.bool ok)
  generalize w4.setCell ⟨g9, 0, none⟩ (.bool ok) = w5 at *
  go_wp2_with (first | (refine wpList_load_agg rfl 52 _ rfl g9 rfl _ q9s _ Safg.underlying52 (size52c (by simp)) ?_) | (refine wpList_store_agg rfl 52 _ _ rfl g8 rfl _ _ rfl q8s (ans0_len (by simp)) Safg.size52a ansC_one ?_; intro w6 q86 o8))
  have hpp := HPP.out
  refine bodyPost_ret (results_cell1 Safg.results20 _ w6 g8 _ _ rfl q86 Safg.underlying52 rfl (size52c (by simp))) rfl ⟨none, by rw [← HOK.out]; rfl, RdNew.nothing _ _, MPost.end_ h.lt hcol b3 hpp (two_turn o9 o8) (by intro i hi; simp at hi; rcases hi with rfl | rfl <;> omega)⟩


set_option maxRecDepth 100000 in
set_option maxHeartbeats 4000000 in
theorem playMem_any_2 (w : World) (B T : Nat) (col : Nat → Nat) (fv : Value) (fvs : List Value) (F : List (List Nat)) (h : Md B T w col fv fvs F) (hF : FOk F) (hcol : ∀ k, w.heap.size ≤ k → col k = 2) (hBw : B ≤ w.heap.size) (a b n f gs : Nat) (ha : a < 4294967296) (hb : b < 4294967296) (hn : n < 4294967296) (hf : f < 256) (os : Own w gs (fillL 40 f)) :
    Calls Safg.prog 20 #[.pointer (some ⟨T, 10, none⟩), .agg (opC 2 a b n f).toArray, .slice (some ⟨gs, 0, none⟩) 40 40, .int .u64 (b : Int)] w fun e w' => ∃ ra, e = .returned (.agg (ansC (stepOk F 2 a b n) (stepSize F 2) (stepWord F 2 a) (.slice ra (stepRead F 2 a n).length (stepRead F 2 a n).length)).toArray) ∧ RdNew w.heap.size w' ra (stepRead F 2 a n) ∧ MPost B T w w' col (stepF F 2 a b n f) := by
  obtain ⟨ok, HOK⟩ : ∃ ok, Hid (growOk F a = ok) := ⟨_, rfl⟩
  go_enter Safg.func20, Safg.ntmps20
  go_upto_region 1 with (first | (refine wpList_box_agg rfl 49 _ rfl (opC 2 a b n f) rfl ?_; intro w1 g5 hg5 k5 b1) | (refine wpList_alloc_agg rfl 52 rfl ans0 Safg.zero52 ?_; intro w2 g8 hg8 k8 b2))
  go_upto_region 2 with (refine wpList_alloc_agg rfl 52 rfl ans0 Safg.zero52 ?_; intro w3 g9 hg9 k9 b3)
  have k8' := k8.below b3 k8.lt
  have k5' := (k5.below b2 k5.lt).below b3 (Nat.lt_of_lt_of_le k5.lt b2.size)
  have hs1 := b1.size
  have hs2 := b2.size
  have hs3 := b3.size
  have b3' : Below w.heap.size w w3 := (b1.trans (b2.mono b1.size)).trans (b3.mono (by omega))
  have hl5 := k5.lt
  have hl8 := k8.lt
  have hl9 := k9.lt
  clear b1 b2 b3
  have b3 := b3'
  clear b3'
  have h3 := h.below b3
  have hne89 : g8 ≠ g9 := by omega
  have hne59 : g5 ≠ g9 := by omega
  have c50 := k5'.get (j := 0) (v := .int .u8 ((2 : Nat) : Int)) rfl
  have c51 := k5'.get (j := 1) (v := .int .u32 (a : Int)) rfl
  have HC := mGrow w3 B T col fv fvs F h3 hF a ha (Nat.le_trans hBw b3.size)
  rw [HOK.out] at HC
  go_upto_region 27 with (go_at_call 67; refine HC.mono ?_; rintro e w4 ⟨rfl, hpp⟩; have q9 := (hpp.blk hcol k9 (by omega)); have q8 := (hpp.blk hcol k8' (by omega)); have c9 := q9.get (j := 0) (v := .bool false) rfl; have f9 := q9.free 0; have HPP : Hid (_) := hpp; clear hpp)
  have q9s : Blk (w4.setCell ⟨g9, 0, none⟩ (.bool ok)) g9 (ansC ok 0 (List.replicate 32 0) (.slice none 0 0)) := q9.set (by decide) (.bool ok)
  have q8s : Blk (w4.setCell ⟨g9, 0, none⟩ (.bool ok)) g8 ans0 := q8.far hne89
  have o9 := (Only.refl g9 w4).setCell 0 (.bool ok)
  generalize w4.setCell ⟨g9, 0, none⟩ (.bool ok) = w5 at *
  go_wp2_with (first | (refine wpList_load_agg rfl 52 _ rfl g9 rfl _ q9s _ Safg.underlying52 (size52c (by simp)) ?_) | (refine wpList_store_agg rfl 52 _ _ rfl g8 rfl _ _ rfl q8s (ans0_len (by simp)) Safg.size52a ansC_one ?_; intro w6 q86 o8))
  have hpp := HPP.out
  refine bodyPost_ret (results_cell1 Safg.results20 _ w6 g8 _ _ rfl q86 Safg.underlying52 rfl (size52c (by simp))) rfl ⟨none, by rw [← HOK.out]; rfl, RdNew.nothing _ _, MPost.end_ h.lt hcol b3 hpp (two_turn o9 o8) (by intro i hi; simp at hi; rcases hi with rfl | rfl <;> omega)⟩


set_option maxRecDepth 100000 in
set_option maxHeartbeats 4000000 in
theorem playMem_any_6 (w : World) (B T : Nat) (col : Nat → Nat) (fv : Value) (fvs : List Value) (F : List (List Nat)) (h : Md B T w col fv fvs F) (hF : FOk F) (hcol : ∀ k, w.heap.size ≤ k → col k = 2) (hBw : B ≤ w.heap.size) (a b n f gs : Nat) (ha : a < 4294967296) (hb : b < 4294967296) (hn : n < 4294967296) (hf : f < 256) (os : Own w gs (fillL 40 f)) :
    Calls Safg.prog 20 #[.pointer (some ⟨T, 10, none⟩), .agg (opC 6 a b n f).toArray, .slice (some ⟨gs, 0, none⟩) 40 40, .int .u64 (b : Int)] w fun e w' => ∃ ra, e = .returned (.agg (ansC (stepOk F 6 a b n) (stepSize F 6) (stepWord F 6 a) (.slice ra (stepRead F 6 a n).length (stepRead F 6 a n).length)).toArray) ∧ RdNew w.heap.size w' ra (stepRead F 6 a n) ∧ MPost B T w w' col (stepF F 6 a b n f) := by
  obtain ⟨ok, HOK⟩ : ∃ ok, Hid (hasF F a 1 = ok) := ⟨_, rfl⟩
  go_enter Safg.func20, Safg.ntmps20
  go_upto_region 1 with (first | (refine wpList_box_agg rfl 49 _ rfl (opC 6 a b n f) rfl ?_; intro w1 g5 hg5 k5 b1) | (refine wpList_alloc_agg rfl 52 rfl ans0 Safg.zero52 ?_; intro w2 g8 hg8 k8 b2))
  go_upto_region 2 with (refine wpList_alloc_agg rfl 52 rfl ans0 Safg.zero52 ?_; intro w3 g9 hg9 k9 b3)
  have k8' := k8.below b3 k8.lt
  have k5' := (k5.below b2 k5.lt).below b3 (Nat.lt_of_lt_of_le k5.lt b2.size)
  have hs1 := b1.size
  have hs2 := b2.size
  have hs3 := b3.size
  have b3' : Below w.heap.size w w3 := (b1.trans (b2.mono b1.size)).trans (b3.mono (by omega))
  have hl5 := k5.lt
  have hl8 := k8.lt
  have hl9 := k9.lt
  clear b1 b2 b3
  have b3 := b3'
  clear b3'
  have h3 := h.below b3
  have hne89 : g8 ≠ g9 := by omega
  have hne59 : g5 ≠ g9 := by omega
  have c50 := k5'.get (j := 0) (v := .int .u8 ((6 : Nat) : Int)) rfl
  have c51 := k5'.get (j := 1) (v := .int .u32 (a : Int)) rfl
  have c54 := k5'.get (j := 4) (v := .int .u8 (f : Int)) rfl
  have HC := mStore8 w3 B T col fv fvs F h3 hF a f ha hf
  rw [HOK.out] at HC
  go_upto_region 27 with (go_at_call 71; refine HC.mono ?_; rintro e w4 ⟨rfl, hpp⟩; have q9 := (hpp.blk hcol k9 (by omega)); have q8 := (hpp.blk hcol k8' (by omega)); have c9 := q9.get (j := 0) (v := .bool false) rfl; have f9 := q9.free 0; have HPP : Hid (_) := hpp; clear hpp)
  have q9s : Blk (w4.setCell ⟨g9, 0, none⟩ (.bool ok)) g9 (ansC ok 0 (List.replicate 32 0) (.slice none 0 0)) := q9.set (by decide) (.bool ok)
  have q8s : Blk (w4.setCell ⟨g9, 0, none⟩ (.bool ok)) g8 ans0 := q8.far hne89
  have o9 := (Only.refl g9 w4).setCell 0 (.bool ok)
  generalize w4.setCell ⟨g9, 0, none⟩ (.bool ok) = w5 at *
  go_wp2_with (first | (refine wpList_load_agg rfl 52 _ rfl g9 rfl _ q9s _ Safg.underlying52 (size52c (by simp)) ?_) | (refine wpList_store_agg rfl 52 _ _ rfl g8 rfl _ _ rfl q8s (ans0_len (by simp)) Safg.size52a ansC_one ?_; intro w6 q86 o8))
  have hpp := HPP.out
  refine bodyPost_ret (results_cell1 Safg.results20 _ w6 g8 _ _ rfl q86 Safg.underlying52 rfl (size52c (by simp))) rfl ⟨none, by rw [← HOK.out]; rfl, RdNew.nothing _ _, MPost.end_ h.lt hcol b3 hpp (two_turn o9 o8) (by intro i hi; simp at hi; rcases hi with rfl | rfl <;> omega)⟩


set_option maxRecDepth 100000 in
set_option maxHeartbeats 4000000 in
theorem playMem_any_7 (w : World) (B T : Nat) (col : Nat → Nat) (fv : Value) (fvs : List Value) (F : List (List Nat)) (h : Md B T w col fv fvs F) (hF : FOk F) (hcol : ∀ k, w.heap.size ≤ k → col k = 2) (hBw : B ≤ w.heap.size) (a b n f gs : Nat) (ha : a < 4294967296) (hb : b < 4294967296) (hn : n < 4294967296) (hf : f < 256) (os : Own w gs (fillL 40 f)) :
    Calls Safg.prog 20 #[.pointer (some ⟨T, 10, none⟩), .agg (opC 7 a b n f).toArray, .slice (some ⟨gs, 0, none⟩) 40 40, .int .u64 (b : Int)] w fun e w' => ∃ ra, e = .returned (.agg (ansC (stepOk F 7 a b n) (stepSize F 7) (stepWord F 7 a) (.slice ra (stepRead F 7 a n).length (stepRead F 7 a n).length)).toArray) ∧ RdNew w.heap.size w' ra (stepRead F 7 a n) ∧ MPost B T w w' col (stepF F 7 a b n f) := by
  obtain ⟨ok, HOK⟩ : ∃ ok, Hid ((hasF F a n && hasF F b n) = ok) := ⟨_, rfl⟩
  go_enter Safg.func20, Safg.ntmps20
  go_upto_region 1 with (first | (refine wpList_box_agg rfl 49 _ rfl (opC 7 a b n f) rfl ?_; intro w1 g5 hg5 k5 b1) | (refine wpList_alloc_agg rfl 52 rfl ans0 Safg.zero52 ?_; intro w2 g8 hg8 k8 b2))
  go_upto_region 2 with (refine wpList_alloc_agg rfl 52 rfl ans0 Safg.zero52 ?_; intro w3 g9 hg9 k9 b3)
  have k8' := k8.below b3 k8.lt
  have k5' := (k5.below b2 k5.lt).below b3 (Nat.lt_of_lt_of_le k5.lt b2.size)
  have hs1 := b1.size
  have hs2 := b2.size
  have hs3 := b3.size
  have b3' : Below w.heap.size w w3 := (b1.trans (b2.mono b1.size)).trans (b3.mono (by omega))
  have hl5 := k5.lt
  have hl8 := k8.lt
  have hl9 := k9.lt
  clear b1 b2 b3
  have b3 := b3'
  clear b3'
  have h3 := h.below b3
  have hne89 : g8 ≠ g9 := by omega
  have hne59 : g5 ≠ g9 := by omega
  have c50 := k5'.get (j := 0) (v := .int .u8 ((7 : Nat) : Int)) rfl
  have c51 := k5'.get (j := 1) (v := .int .u32 (a : Int)) rfl
  have c52 := k5'.get (j := 2) (v := .int .u32 (b : Int)) rfl
  have c53 := k5'.get (j := 3) (v := .int .u32 (n : Int)) rfl
  have HC := mMove w3 B T col fv fvs F h3 hF a b n ha hb hn
  rw [HOK.out] at HC
  go_upto_region 27 with (go_at_call 72; refine HC.mono ?_; rintro e w4 ⟨rfl, hpp⟩; have q9 := (hpp.blk hcol k9 (by omega)); have q8 := (hpp.blk hcol k8' (by omega)); have c9 := q9.get (j := 0) (v := .bool false) rfl; have f9 := q9.free 0; have HPP : Hid (_) := hpp; clear hpp)
  have q9s : Blk (w4.setCell ⟨g9, 0, none⟩ (.bool ok)) g9 (ansC ok 0 (List.replicate 32 0) (.slice none 0 0)) := q9.set (by decide) (.bool ok)
  have q8s : Blk (w4.setCell ⟨g9, 0, none⟩ (.bool ok)) g8 ans0 := q8.far hne89
  have o9 := (Only.refl g9 w4).setCell 0 (.bool ok)
  generalize w4.setCell ⟨g9, 0, none⟩ (.bool ok) = w5 at *
  go_wp2_with (first | (refine wpList_load_agg rfl 52 _ rfl g9 rfl _ q9s _ Safg.underlying52 (size52c (by simp)) ?_) | (refine wpList_store_agg rfl 52 _ _ rfl g8 rfl _ _ rfl q8s (ans0_len (by simp)) Safg.size52a ansC_one ?_; intro w6 q86 o8))
  have hpp := HPP.out
  refine bodyPost_ret (results_cell1 Safg.results20 _ w6 g8 _ _ rfl q86 Safg.underlying52 rfl (size52c (by simp))) rfl ⟨none, by rw [← HOK.out]; rfl, RdNew.nothing _ _, MPost.end_ h.lt hcol b3 hpp (two_turn o9 o8) (by intro i hi; simp at hi; rcases hi with rfl | rfl <;> omega)⟩


set_option maxRecDepth 100000 in
set_option maxHeartbeats 4000000 in
theorem playMem_any_9 (w : World) (B T : Nat) (col : Nat → Nat) (fv : Value) (fvs : List Value) (F : List (List Nat)) (h : Md B T w col fv fvs F) (hF : FOk F) (hcol : ∀ k, w.heap.size ≤ k → col k = 2) (hBw : B ≤ w.heap.size) (a b n f gs : Nat) (ha : a < 4294967296) (hb : b < 4294967296) (hn : n < 4294967296) (hf : f < 256) (os : Own w gs (fillL 40 f)) :
    Calls Safg.prog 20 #[.pointer (some ⟨T, 10, none⟩), .agg (opC 9 a b n f).toArray, .slice (some ⟨gs, 0, none⟩) 40 40, .int .u64 (b : Int)] w fun e w' => ∃ ra, e = .returned (.agg (ansC (stepOk F 9 a b n) (stepSize F 9) (stepWord F 9 a) (.slice ra (stepRead F 9 a n).length (stepRead F 9 a n).length)).toArray) ∧ RdNew w.heap.size w' ra (stepRead F 9 a n) ∧ MPost B T w w' col (stepF F 9 a b n f) := by
  obtain ⟨ok, HOK⟩ : ∃ ok, Hid (hasF F a n = ok) := ⟨_, rfl⟩
  go_enter Safg.func20, Safg.ntmps20
  go_upto_region 1 with (first | (refine wpList_box_agg rfl 49 _ rfl (opC 9 a b n f) rfl ?_; intro w1 g5 hg5 k5 b1) | (refine wpList_alloc_agg rfl 52 rfl ans0 Safg.zero52 ?_; intro w2 g8 hg8 k8 b2))
  go_upto_region 2 with (refine wpList_alloc_agg rfl 52 rfl ans0 Safg.zero52 ?_; intro w3 g9 hg9 k9 b3)
  have k8' := k8.below b3 k8.lt
  have k5' := (k5.below b2 k5.lt).below b3 (Nat.lt_of_lt_of_le k5.lt b2.size)
  have hs1 := b1.size
  have hs2 := b2.size
  have hs3 := b3.size
  have b3' : Below w.heap.size w w3 := (b1.trans (b2.mono b1.size)).trans (b3.mono (by omega))
  have hl5 := k5.lt
  have hl8 := k8.lt
  have hl9 := k9.lt
  clear b1 b2 b3
  have b3 := b3'
  clear b3'
  have h3 := h.below b3
  have hne89 : g8 ≠ g9 := by omega
  have hne59 : g5 ≠ g9 := by omega
  have c50 := k5'.get (j := 0) (v := .int .u8 ((9 : Nat) : Int)) rfl
  have c51 := k5'.get (j := 1) (v := .int .u32 (a : Int)) rfl
  have c53 := k5'.get (j := 3) (v := .int .u32 (n : Int)) rfl
  have HC := mWrite w3 B T col fv fvs F h3 hF a n b gs (fillL 40 f) ha hn hb (fillL_length _ _) (fillL_dig _ _) (os.below b3 os.lt)
  rw [HOK.out] at HC
  go_upto_region 27 with (go_at_call 74; refine HC.mono ?_; rintro e w4 ⟨rfl, hpp⟩; have q9 := (hpp.blk hcol k9 (by omega)); have q8 := (hpp.blk hcol k8' (by omega)); have c9 := q9.get (j := 0) (v := .bool false) rfl; have f9 := q9.free 0; have HPP : Hid (_) := hpp; clear hpp)
  have q9s : Blk (w4.setCell ⟨g9, 0, none⟩ (.bool ok)) g9 (ansC ok 0 (List.replicate 32 0) (.slice none 0 0)) := q9.set (by decide) (.bool ok)
  have q8s : Blk (w4.setCell ⟨g9, 0, none⟩ (.bool ok)) g8 ans0 := q8.far hne89
  have o9 := (Only.refl g9 w4).setCell 0 (.bool ok)
  generalize w4.setCell ⟨g9, 0, none⟩ (.bool ok) = w5 at *
  go_wp2_with (first | (refine wpList_load_agg rfl 52 _ rfl g9 rfl _ q9s _ Safg.underlying52 (size52c (by simp)) ?_) | (refine wpList_store_agg rfl 52 _ _ rfl g8 rfl _ _ rfl q8s (ans0_len (by simp)) Safg.size52a ansC_one ?_; intro w6 q86 o8))
  have hpp := HPP.out
  refine bodyPost_ret (results_cell1 Safg.results20 _ w6 g8 _ _ rfl q86 Safg.underlying52 rfl (size52c (by simp))) rfl ⟨none, by rw [← HOK.out]; rfl, RdNew.nothing _ _, MPost.end_ h.lt hcol b3 hpp (two_turn o9 o8) (by intro i hi; simp at hi; rcases hi with rfl | rfl <;> omega)⟩


set_option maxRecDepth 100000 in
set_option maxHeartbeats 4000000 in
theorem playMem_any_3 (w : World) (B T : Nat) (col : Nat → Nat) (fv : Value) (fvs : List Value) (F : List (List Nat)) (h : Md B T w col fv fvs F) (hF : FOk F) (hcol : ∀ k, w.heap.size ≤ k → col k = 2) (hBw : B ≤ w.heap.size) (a b n f gs : Nat) (ha : a < 4294967296) (hb : b < 4294967296) (hn : n < 4294967296) (hf : f < 256) (os : Own w gs (fillL 40 f)) :
    Calls Safg.prog 20 #[.pointer (some ⟨T, 10, none⟩), .agg (opC 3 a b n f).toArray, .slice (some ⟨gs, 0, none⟩) 40 40, .int .u64 (b : Int)] w fun e w' => ∃ ra, e = .returned (.agg (ansC (stepOk F 3 a b n) (stepSize F 3) (stepWord F 3 a) (.slice ra (stepRead F 3 a n).length (stepRead F 3 a n).length)).toArray) ∧ RdNew w.heap.size w' ra (stepRead F 3 a n) ∧ MPost B T w w' col (stepF F 3 a b n f) := by
  obtain ⟨sz, HSZ⟩ : ∃ sz, Hid ((topF F).length = sz) := ⟨_, rfl⟩
  go_enter Safg.func20, Safg.ntmps20
  go_upto_region 1 with (first | (refine wpList_box_agg rfl 49 _ rfl (opC 3 a b n f) rfl ?_; intro w1 g5 hg5 k5 b1) | (refine wpList_alloc_agg rfl 52 rfl ans0 Safg.zero52 ?_; intro w2 g8 hg8 k8 b2))
  go_upto_region 2 with (refine wpList_alloc_agg rfl 52 rfl ans0 Safg.zero52 ?_; intro w3 g9 hg9 k9 b3)
  have k8' := k8.below b3 k8.lt
  have k5' := (k5.below b2 k5.lt).below b3 (Nat.lt_of_lt_of_le k5.lt b2.size)
  have hs1 := b1.size
  have hs2 := b2.size
  have hs3 := b3.size
  have b3' : Below w.heap.size w w3 := (b1.trans (b2.mono b1.size)).trans (b3.mono (by omega))
  have hl5 := k5.lt
  have hl8 := k8.lt
  have hl9 := k9.lt
  clear b1 b2 b3
  have b3 := b3'
  clear b3'
  have h3 := h.below b3
  have hne89 : g8 ≠ g9 := by omega
  have hne59 : g5 ≠ g9 := by omega
  have c50 := k5'.get (j := 0) (v := .int .u8 ((3 : Nat) : Int)) rfl
  have HC := mLen w3 B T col fv fvs F h3 hF
  rw [HSZ.out] at HC
  go_upto_region 27 with (go_at_call 68; refine HC.mono ?_; rintro e w4 ⟨rfl, s4⟩; have hpp := h3.stay s4; have q9 := (hpp.blk hcol k9 (by omega)); have q8 := (hpp.blk hcol k8' (by omega)); have c9 := q9.get (j := 1) (v := .int .u32 0) rfl; have f9 := q9.free 1; have HPP : Hid (_) := hpp; clear hpp)
  have q9s : Blk (w4.setCell ⟨g9, 1, none⟩ (.int .u32 (sz : Int))) g9 (ansC false sz (List.replicate 32 0) (.slice none 0 0)) := q9.set (by decide) (.int .u32 (sz : Int))
  have q8s : Blk (w4.setCell ⟨g9, 1, none⟩ (.int .u32 (sz : Int))) g8 ans0 := q8.far hne89
  have o9 := (Only.refl g9 w4).setCell 1 (.int .u32 (sz : Int))
  generalize w4.setCell ⟨g9, 1, none⟩ (.int .u32 (sz : Int)) = w5 at *
  go_wp2_with (first | (refine wpList_load_agg rfl 52 _ rfl g9 rfl _ q9s _ Safg.underlying52 (size52c (by simp)) ?_) | (refine wpList_store_agg rfl 52 _ _ rfl g8 rfl _ _ rfl q8s (ans0_len (by simp)) Safg.size52a ansC_one ?_; intro w6 q86 o8))
  have hpp := HPP.out
  refine bodyPost_ret (results_cell1 Safg.results20 _ w6 g8 _ _ rfl q86 Safg.underlying52 rfl (size52c (by simp))) rfl ⟨none, by rw [← HSZ.out]; rfl, RdNew.nothing _ _, MPost.end_ h.lt hcol b3 hpp (two_turn o9 o8) (by intro i hi; simp at hi; rcases hi with rfl | rfl <;> omega)⟩


set_option maxRecDepth 100000 in
set_option maxHeartbeats 4000000 in
theorem playMem_any_10 (w : World) (B T : Nat) (col : Nat → Nat) (fv : Value) (fvs : List Value) (F : List (List Nat)) (h : Md B T w col fv fvs F) (hF : FOk F) (hcol : ∀ k, w.heap.size ≤ k → col k = 2) (hBw : B ≤ w.heap.size) (a b n f gs : Nat) (ha : a < 4294967296) (hb : b < 4294967296) (hn : n < 4294967296) (hf : f < 256) (os : Own w gs (fillL 40 f)) :
    Calls Safg.prog 20 #[.pointer (some ⟨T, 10, none⟩), .agg (opC 10 a b n f).toArray, .slice (some ⟨gs, 0, none⟩) 40 40, .int .u64 (b : Int)] w fun e w' => ∃ ra, e = .returned (.agg (ansC (stepOk F 10 a b n) (stepSize F 10) (stepWord F 10 a) (.slice ra (stepRead F 10 a n).length (stepRead F 10 a n).length)).toArray) ∧ RdNew w.heap.size w' ra (stepRead F 10 a n) ∧ MPost B T w w' col (stepF F 10 a b n f) := by
  go_enter Safg.func20, Safg.ntmps20
  go_upto_region 1 with (first | (refine wpList_box_agg rfl 49 _ rfl (opC 10 a b n f) rfl ?_; intro w1 g5 hg5 k5 b1) | (refine wpList_alloc_agg rfl 52 rfl ans0 Safg.zero52 ?_; intro w2 g8 hg8 k8 b2))
  go_upto_region 2 with (refine wpList_alloc_agg rfl 52 rfl ans0 Safg.zero52 ?_; intro w3 g9 hg9 k9 b3)
  have k8' := k8.below b3 k8.lt
  have k5' := (k5.below b2 k5.lt).below b3 (Nat.lt_of_lt_of_le k5.lt b2.size)
  have hs1 := b1.size
  have hs2 := b2.size
  have hs3 := b3.size
  have b3' : Below w.heap.size w w3 := (b1.trans (b2.mono b1.size)).trans (b3.mono (by omega))
  have hl5 := k5.lt
  have hl8 := k8.lt
  have hl9 := k9.lt
  clear b1 b2 b3
  have b3 := b3'
  clear b3'
  have h3 := h.below b3
  have hne89 : g8 ≠ g9 := by omega
  have hne59 : g5 ≠ g9 := by omega
  have c50 := k5'.get (j := 0) (v := .int .u8 ((10 : Nat) : Int)) rfl
  have HC := mCheck w3 (some ⟨T, 10, none⟩)
  go_upto_region 27 with (go_at_call 75; refine HC.mono ?_; rintro e w4 ⟨rfl, hw4⟩; have s4 := Same.of_eq hw4; clear hw4; have hpp := h3.stay s4; have q9 := (hpp.blk hcol k9 (by omega)); have q8 := (hpp.blk hcol k8' (by omega)); have c9 := q9.get (j := 0) (v := .bool false) rfl; have f9 := q9.free 0; have HPP : Hid (_) := hpp; clear hpp)
  have q9s : Blk (w4.setCell ⟨g9, 0, none⟩ (.bool true)) g9 (ansC true 0 (List.replicate 32 0) (.slice none 0 0)) := q9.set (by decide) (.bool true)
  have q8s : Blk (w4.setCell ⟨g9, 0, none⟩ (.bool true)) g8 ans0 := q8.far hne89
  have o9 := (Only.refl g9 w4).setCell 0 (.bool true)
  generalize w4.setCell ⟨g9, 0, none⟩ (.bool true) = w5 at *
  go_wp2_with (first | (refine wpList_load_agg rfl 52 _ rfl g9 rfl _ q9s _ Safg.underlying52 (size52c (by simp)) ?_) | (refine wpList_store_agg rfl 52 _ _ rfl g8 rfl _ _ rfl q8s (ans0_len (by simp)) Safg.size52a ansC_one ?_; intro w6 q86 o8))
  have hpp := HPP.out
  refine bodyPost_ret (results_cell1 Safg.results20 _ w6 g8 _ _ rfl q86 Safg.underlying52 rfl (size52c (by simp))) rfl ⟨none, rfl, RdNew.nothing _ _, MPost.end_ h.lt hcol b3 hpp (two_turn o9 o8) (by intro i hi; simp at hi; rcases hi with rfl | rfl <;> omega)⟩


set_option maxRecDepth 100000 in
set_option maxHeartbeats 4000000 in
theorem playMem_any_8 (w : World) (B T : Nat) (col : Nat → Nat) (fv : Value) (fvs : List Value) (F : List (List Nat)) (h : Md B T w col fv fvs F) (hF : FOk F) (hcol : ∀ k, w.heap.size ≤ k → col k = 2) (hBw : B ≤ w.heap.size) (a b n f gs : Nat) (ha : a < 4294967296) (hb : b < 4294967296) (hn : n < 4294967296) (hf : f < 256) (os : Own w gs (fillL 40 f)) :
    Calls Safg.prog 20 #[.pointer (some ⟨T, 10, none⟩), .agg (opC 8 a b n f).toArray, .slice (some ⟨gs, 0, none⟩) 40 40, .int .u64 (b : Int)] w fun e w' => ∃ ra, e = .returned (.agg (ansC (stepOk F 8 a b n) (stepSize F 8) (stepWord F 8 a) (.slice ra (stepRead F 8 a n).length (stepRead F 8 a n).length)).toArray) ∧ RdNew w.heap.size w' ra (stepRead F 8 a n) ∧ MPost B T w w' col (stepF F 8 a b n f) := by
  obtain ⟨r, HR⟩ : ∃ r, Hid (readF F a n = r) := ⟨_, rfl⟩
  have hrd : D.Dig r := by
    rw [← HR.out]
    unfold readF
    split
    · exact subL_dig (topF_dig hF)
    · exact D.Dig.nil
  go_enter Safg.func20, Safg.ntmps20
  go_upto_region 1 with (first | (refine wpList_box_agg rfl 49 _ rfl (opC 8 a b n f) rfl ?_; intro w1 g5 hg5 k5 b1) | (refine wpList_alloc_agg rfl 52 rfl ans0 Safg.zero52 ?_; intro w2 g8 hg8 k8 b2))
  go_upto_region 2 with (refine wpList_alloc_agg rfl 52 rfl ans0 Safg.zero52 ?_; intro w3 g9 hg9 k9 b3)
  have k8' := k8.below b3 k8.lt
  have k5' := (k5.below b2 k5.lt).below b3 (Nat.lt_of_lt_of_le k5.lt b2.size)
  have hs1 := b1.size
  have hs2 := b2.size
  have hs3 := b3.size
  have b3' : Below w.heap.size w w3 := (b1.trans (b2.mono b1.size)).trans (b3.mono (by omega))
  have hl5 := k5.lt
  have hl8 := k8.lt
  have hl9 := k9.lt
  clear b1 b2 b3
  have b3 := b3'
  clear b3'
  have h3 := h.below b3
  have hne89 : g8 ≠ g9 := by omega
  have hne59 : g5 ≠ g9 := by omega
  have c50 := k5'.get (j := 0) (v := .int .u8 ((8 : Nat) : Int)) rfl
  have c51 := k5'.get (j := 1) (v := .int .u32 (a : Int)) rfl
  have c53 := k5'.get (j := 3) (v := .int .u32 (n : Int)) rfl
  have HC := mRead w3 B T col fv fvs F h3 hF a n ha hn
  rw [HR.out] at HC
  go_upto_region 27 with (go_at_call 73; refine HC.mono ?_; rintro e w4 ⟨ra, rfl, hnil, hown, b4⟩; have hpp := h3.grew b4; have rn := RdNew.of hrd hnil hown; have q9 := (hpp.blk hcol k9 (by omega)); have q8 := (hpp.blk hcol k8' (by omega)); have c9 := q9.get (j := 34) (v := .slice none 0 0) rfl; have f9 := q9.free 34; have HPP : Hid (_) := hpp; have HRN : Hid (RdNew w3.heap.size w4 ra r) := rn; clear hpp hnil hown rn)
  have q9s : Blk (w4.setCell ⟨g9, 34, none⟩ (.slice ra r.length r.length)) g9 (ansC false 0 (List.replicate 32 0) (.slice ra r.length r.length)) := q9.set (by decide) (.slice ra r.length r.length)
  have q8s : Blk (w4.setCell ⟨g9, 34, none⟩ (.slice ra r.length r.length)) g8 ans0 := q8.far hne89
  have o9 := (Only.refl g9 w4).setCell 34 (.slice ra r.length r.length)
  generalize w4.setCell ⟨g9, 34, none⟩ (.slice ra r.length r.length) = w5 at *
  go_wp2_with (first | (refine wpList_load_agg rfl 52 _ rfl g9 rfl _ q9s _ Safg.underlying52 (size52c (by simp)) ?_) | (refine wpList_store_agg rfl 52 _ _ rfl g8 rfl _ _ rfl q8s (ans0_len (by simp)) Safg.size52a ansC_one ?_; intro w6 q86 o8))
  have hpp := HPP.out
  have hrn := (HRN.out.turn (two_turn o9 o8) (by intro i hi; simp at hi; rcases hi with rfl | rfl <;> omega)).mono b3.size
  have HRR : stepRead F 8 a n = r := HR.out
  refine bodyPost_ret (results_cell1 Safg.results20 _ w6 g8 _ _ rfl q86 Safg.underlying52 rfl (size52c (by simp))) rfl ⟨ra, by rw [HRR]; rfl, by rw [HRR]; exact hrn, MPost.end_ h.lt hcol b3 hpp (two_turn o9 o8) (by intro i hi; simp at hi; rcases hi with rfl | rfl <;> omega)⟩


set_option maxRecDepth 100000 in
set_option maxHeartbeats 4000000 in
theorem playMem_any_4 (w : World) (B T : Nat) (col : Nat → Nat) (fv : Value) (fvs : List Value) (F : List (List Nat)) (h : Md B T w col fv fvs F) (hF : FOk F) (hcol : ∀ k, w.heap.size ≤ k → col k = 2) (hBw : B ≤ w.heap.size) (a b n f gs : Nat) (ha : a < 4294967296) (hb : b < 4294967296) (hn : n < 4294967296) (hf : f < 256) (os : Own w gs (fillL 40 f)) :
    Calls Safg.prog 20 #[.pointer (some ⟨T, 10, none⟩), .agg (opC 4 a b n f).toArray, .slice (some ⟨gs, 0, none⟩) 40 40, .int .u64 (b : Int)] w fun e w' => ∃ ra, e = .returned (.agg (ansC (stepOk F 4 a b n) (stepSize F 4) (stepWord F 4 a) (.slice ra (stepRead F 4 a n).length (stepRead F 4 a n).length)).toArray) ∧ RdNew w.heap.size w' ra (stepRead F 4 a n) ∧ MPost B T w w' col (stepF F 4 a b n f) := by
  obtain ⟨ok, HOK⟩ : ∃ ok, Hid (hasF F a 32 = ok) := ⟨_, rfl⟩
  have hWl : (wordF F a).length = 32 := stepWord_length (k := 4)
  obtain ⟨W, HW⟩ : ∃ W, Hid (wordF F a = W) := ⟨_, rfl⟩
  rw [HW.out] at hWl
  go_enter Safg.func20, Safg.ntmps20
  go_upto_region 1 with (first | (refine wpList_box_agg rfl 49 _ rfl (opC 4 a b n f) rfl ?_; intro w1 g5 hg5 k5 b1) | (refine wpList_alloc_agg rfl 52 rfl ans0 Safg.zero52 ?_; intro w2 g8 hg8 k8 b2))
  go_upto_region 2 with (refine wpList_alloc_agg rfl 52 rfl ans0 Safg.zero52 ?_; intro w3 g9 hg9 k9 b3)
  have k8' := k8.below b3 k8.lt
  have k5' := (k5.below b2 k5.lt).below b3 (Nat.lt_of_lt_of_le k5.lt b2.size)
  have hs1 := b1.size
  have hs2 := b2.size
  have hs3 := b3.size
  have b3' : Below w.heap.size w w3 := (b1.trans (b2.mono b1.size)).trans (b3.mono (by omega))
  have hl5 := k5.lt
  have hl8 := k8.lt
  have hl9 := k9.lt
  clear b1 b2 b3
  have b3 := b3'
  clear b3'
  have h3 := h.below b3
  have hne89 : g8 ≠ g9 := by omega
  have hne59 : g5 ≠ g9 := by omega
  have c50 := k5'.get (j := 0) (v := .int .u8 ((4 : Nat) : Int)) rfl
  have c51 := k5'.get (j := 1) (v := .int .u32 (a : Int)) rfl
  have HC := mLoad32 w3 B T col fv fvs F h3 hF a ha
  rw [HOK.out, HW.out] at HC
  go_upto_region 13 with (first | (go_at_call 69; refine HC.mono ?_; rintro e w4 ⟨rfl, b4⟩; have hpp := h3.grew b4; have q9 := (hpp.blk hcol k9 (by omega)); have q8 := (hpp.blk hcol k8' (by omega)); have HPP : Hid (_) := hpp; clear hpp; have hs4 := b4.size) | (refine wpList_alloc_arr rfl 28 rfl 32 Safg.zero28 ?_; intro w41 g10 hg10 o10 b10) | (refine wpList_store_arr rfl 28 _ _ rfl g10 rfl _ W rfl o10 (by simp [hWl]) Safg.size28 ?_; intro w42 o11 n11))
  have q9' := (q9.below b10 q9.lt).turn (Turn.of_only n11) (by simp; have := q9.lt; omega)
  have q8' := (q8.below b10 q8.lt).turn (Turn.of_only n11) (by simp; have := q8.lt; omega)
  have tt4 : Turn [] w4 w42 := (Turn.of_below b10 (Nat.le_refl _) []).then_ (Turn.of_only n11) (by intro i hi h; simp at hi; omega)
  have r11 := o11.range
  have hth : w42.there g9 2 (cellsL W).toArray.size := by
    intro j hj
    have hj' : j < 32 := by simpa [cellsL_length, hWl] using hj
    have hlen : ans0.length = 35 := rfl
    have := q9'.get (List.getElem?_eq_getElem (show 2 + j < ans0.length by omega))
    exact ⟨by rw [this]; rfl, q9'.free _⟩
  go_upto_region 14 with (first | (refine wpList_load_mid rfl 28 _ rfl g10 0 rfl (cellsL W) _ r11 Safg.underlying28 rfl (by rw [cellsL_length, hWl]; exact Safg.size28) ?_) | (refine wpList_store_mid rfl 28 _ _ rfl g9 2 (cellsL W).toArray rfl rfl hth (by simp [cellsL_length, hWl]; exact Safg.size28') (all_oneCell_toArray (cellsL_one W)) ?_; rw [List.toList_toArray]))
  have q9m := q9'.setMid 2 (cellsL W) (by rw [cellsL_length, hWl]; decide)
  rw [laid_word hWl] at q9m
  have o9m := Only.setCells (g := g9) (cellsL W) (a := w42) (w := w42) 2 (Only.refl g9 w42)
  have q8m := q8'.turn (Turn.of_only o9m) (by simpa using hne89)
  generalize w42.setCells g9 2 (cellsL W) = w43 at *
  have c9 := q9m.get (j := 0) (v := .bool false) rfl
  have f9 := q9m.free 0
  go_upto_region 27 with fail
  have q9s : Blk (w43.setCell ⟨g9, 0, none⟩ (.bool ok)) g9 (ansC ok 0 W (.slice none 0 0)) := q9m.set (by rw [ansC_length hWl]; decide) (.bool ok)
  have q8s : Blk (w43.setCell ⟨g9, 0, none⟩ (.bool ok)) g8 ans0 := q8m.far hne89
  have o9 := o9m.setCell 0 (.bool ok)
  generalize w43.setCell ⟨g9, 0, none⟩ (.bool ok) = w5 at *
  go_wp2_with (first | (refine wpList_load_agg rfl 52 _ rfl g9 rfl _ q9s _ Safg.underlying52 (size52c hWl) ?_) | (refine wpList_store_agg rfl 52 _ _ rfl g8 rfl _ _ rfl q8s (ans0_len hWl) Safg.size52a ansC_one ?_; intro w6 q86 o8))
  have hpp := HPP.out
  have t46 : Turn [g9, g8] w4 w6 := (tt4.mono (by simp)).trans (two_turn o9 o8)
  refine bodyPost_ret (results_cell1 Safg.results20 _ w6 g8 _ _ rfl q86 Safg.underlying52 rfl (size52c hWl)) rfl ⟨none, by rw [← HOK.out, ← HW.out]; rfl, RdNew.nothing _ _, MPost.end_ h.lt hcol b3 hpp t46 (by intro i hi; simp at hi; rcases hi with rfl | rfl <;> omega)⟩


set_option maxRecDepth 100000 in
set_option maxHeartbeats 8000000 in
theorem playMem_any_5 (w : World) (B T : Nat) (col : Nat → Nat) (fv : Value) (fvs : List Value) (F : List (List Nat)) (h : Md B T w col fv fvs F) (hF : FOk F) (hcol : ∀ k, w.heap.size ≤ k → col k = 2) (hBw : B ≤ w.heap.size) (a b n f gs : Nat) (ha : a < 4294967296) (hb : b < 4294967296) (hn : n < 4294967296) (hf : f < 256) (os : Own w gs (fillL 40 f)) :
    Calls Safg.prog 20 #[.pointer (some ⟨T, 10, none⟩), .agg (opC 5 a b n f).toArray, .slice (some ⟨gs, 0, none⟩) 40 40, .int .u64 (b : Int)] w fun e w' => ∃ ra, e = .returned (.agg (ansC (stepOk F 5 a b n) (stepSize F 5) (stepWord F 5 a) (.slice ra (stepRead F 5 a n).length (stepRead F 5 a n).length)).toArray) ∧ RdNew w.heap.size w' ra (stepRead F 5 a n) ∧ MPost B T w w' col (stepF F 5 a b n f) := by
  obtain ⟨ok, HOK⟩ : ∃ ok, Hid (hasF F a 32 = ok) := ⟨_, rfl⟩
  have hWl : (fillL 32 f).length = 32 := fillL_length _ _
  have hWd : D.Dig (fillL 32 f) := fillL_dig _ _
  obtain ⟨W, HW⟩ : ∃ W, Hid (fillL 32 f = W) := ⟨_, rfl⟩
  rw [HW.out] at hWl hWd
  go_enter Safg.func20, Safg.ntmps20
  go_upto_region 1 with (first | (refine wpList_box_agg rfl 49 _ rfl (opC 5 a b n f) rfl ?_; intro w1 g5 hg5 k5 b1) | (refine wpList_alloc_agg rfl 52 rfl ans0 Safg.zero52 ?_; intro w2 g8 hg8 k8 b2))
  go_upto_region 2 with (refine wpList_alloc_agg rfl 52 rfl ans0 Safg.zero52 ?_; intro w3 g9 hg9 k9 b3)
  have k8' := k8.below b3 k8.lt
  have k5' := (k5.below b2 k5.lt).below b3 (Nat.lt_of_lt_of_le k5.lt b2.size)
  have hs1 := b1.size
  have hs2 := b2.size
  have hs3 := b3.size
  have b3' : Below w.heap.size w w3 := (b1.trans (b2.mono b1.size)).trans (b3.mono (by omega))
  have hl5 := k5.lt
  have hl8 := k8.lt
  have hl9 := k9.lt
  clear b1 b2 b3
  have b3 := b3'
  clear b3'
  have h3 := h.below b3
  have hne89 : g8 ≠ g9 := by omega
  have hne59 : g5 ≠ g9 := by omega
  have c50 := k5'.get (j := 0) (v := .int .u8 ((5 : Nat) : Int)) rfl
  have c51 := k5'.get (j := 1) (v := .int .u32 (a : Int)) rfl
  have c54 := k5'.get (j := 4) (v := .int .u8 (f : Int)) rfl
  have HF := filled_any w3.drew 32 f (by omega) hf
  rw [HW.out] at HF
  have hl5' : g5 < w3.heap.size := k5'.lt
  have hl5' : g5 < w3.heap.size := k5'.lt
  go_upto_region 16 with fail
  refine wp_region_held_drew (S := fun w' => w'.cell? ⟨g5, 1, none⟩ = some (.int .u32 (a : Int)) ∧ w'.cell? ⟨g5, 4, none⟩ = some (.int .u8 (f : Int))) (by kernel_rfl) ⟨c51, c54⟩ (fun hHeld => ?_)
  refine wpAnyH_take' (i := 0) (d := 51) (v := .pointer (some ⟨T, 10, none⟩)) rfl rfl (by kernel_rfl) (by kernel_rfl) (by kernel_rfl) (fun _ _ _ h => h) (Or.inl ⟨by rfl, fun w hSw => ?_⟩) hHeld ?_
  · first | go_simp | (obtain ⟨hq1, hq2⟩ := hSw; go_simp)
  simp only [Act.put, List.setIfInBounds_toArray, List.set_cons_zero, List.set_cons_succ]
  refine wpAnyH_take' (i := 1) (d := 52) (v := .pointer (some ⟨g5, 1, none⟩)) rfl rfl (by kernel_rfl) (by kernel_rfl) (by kernel_rfl) (fun _ _ _ h => h) (Or.inl ⟨by rfl, fun w hSw => ?_⟩) hHeld ?_
  · first | go_simp | (obtain ⟨hq1, hq2⟩ := hSw; go_simp)
  simp only [Act.put, List.setIfInBounds_toArray, List.set_cons_zero, List.set_cons_succ]
  refine wpAnyH_take' (i := 2) (d := 53) (v := .int .u32 (a : Int)) rfl rfl (by kernel_rfl) (by kernel_rfl) (by kernel_rfl) (fun _ _ _ h => h) (Or.inl ⟨by rfl, fun w hSw => ?_⟩) hHeld ?_
  · first | go_simp | (obtain ⟨hq1, hq2⟩ := hSw; go_simp)
  simp only [Act.put, List.setIfInBounds_toArray, List.set_cons_zero, List.set_cons_succ]
  refine wpAnyH_take' (i := 3) (d := 54) (v := .pointer (some ⟨g5, 4, none⟩)) rfl rfl (by kernel_rfl) (by kernel_rfl) (by kernel_rfl) (fun _ _ _ h => h) (Or.inl ⟨by rfl, fun w hSw => ?_⟩) hHeld ?_
  · first | go_simp | (obtain ⟨hq1, hq2⟩ := hSw; go_simp)
  simp only [Act.put, List.setIfInBounds_toArray, List.set_cons_zero, List.set_cons_succ]
  refine wpAnyH_take' (i := 4) (d := 55) (v := .int .u8 (f : Int)) rfl rfl (by kernel_rfl) (by kernel_rfl) (by kernel_rfl) (fun _ _ _ h => h) (Or.inl ⟨by rfl, fun w hSw => ?_⟩) hHeld ?_
  · first | go_simp | (obtain ⟨hq1, hq2⟩ := hSw; go_simp)
  simp only [Act.put, List.setIfInBounds_toArray, List.set_cons_zero, List.set_cons_succ]
  refine wpAnyH_ready (rs := [5]) (by kernel_rfl) (by simp) ?_
  refine AllReadyH.cons rfl (fun K hK => ?_) AllReadyH.nil
  rw [if_pos (by rfl)]
  go_wp2_with (go_at_call 17; refine HF.mono ?_; rintro e wf ⟨gw, rfl, hgw, ow, bf⟩)
  have hbf : Below w3.heap.size w3 wf := ((Same.drew w3).below _).trans bf
  have k5f := k5'.below hbf hl5'
  have k8f := k8'.below hbf k8'.lt
  have k9f := k9.below hbf k9.lt
  have c51f := k5f.get (j := 1) (v := .int .u32 (a : Int)) rfl
  have c54f := k5f.get (j := 4) (v := .int .u8 (f : Int)) rfl
  have rwf := ow.range
  have hbfs := hbf.size
  refine hK.out _ _ ⟨c51f, c54f⟩ (fun hHeld => ?_)
  clear hK K
  refine wpAnyH_mono (S' := fun w' => (w'.cell? ⟨g5, 1, none⟩ = some (.int .u32 (a : Int)) ∧ w'.cell? ⟨g5, 4, none⟩ = some (.int .u8 (f : Int))) ∧ w'.rangeAt gw 0 (cellsL W)) (fun w h => h.1) _ _ _ _ ?_
  have hHeld2 := And.intro hHeld rwf
  clear hHeld
  refine wpAnyH_take' (i := 6) (d := 57) (v := .pointer (some ⟨gw, 0, none⟩)) rfl rfl (by kernel_rfl) (by kernel_rfl) (by kernel_rfl) (fun _ _ _ h => h) (Or.inl ⟨by rfl, fun w hSw => ?_⟩) hHeld2 ?_
  · have har := run_arrayAt (P := Safg.prog) w 28 5 32 (some ⟨gw, 0, none⟩) 32 32 Safg.underlying28 (Nat.le_refl _)
    go_simp
  simp only [Act.put, List.setIfInBounds_toArray, List.set_cons_zero, List.set_cons_succ]
  refine wpAnyH_take' (i := 7) (d := 58) (v := arrV W) rfl rfl (by kernel_rfl) (by kernel_rfl) (by kernel_rfl) (fun _ _ _ h => h) (yieldsIf_load_mid (by rfl) 28 _ rfl gw 0 rfl (cellsL W) _ (fun w h => h.2) Safg.underlying28 rfl (by rw [cellsL_length, hWl]; exact Safg.size28)) hHeld2 ?_
  simp only [Act.put, List.setIfInBounds_toArray, List.set_cons_zero, List.set_cons_succ]
  have b3f := b3.trans (hbf.mono b3.size)
  have h3f := h.below b3f
  have HS := mStore32 wf B T col fv fvs F h3f hF a W ha hWl hWd
  rw [HOK.out] at HS
  have kwf : Blk wf gw (cellsL W) := ⟨ow.lt, ow.range, ow.free⟩
  have hw3s : w3.drew.heap.size = w3.heap.size := rfl
  refine wpAnyH_ready (rs := [8]) (by kernel_rfl) (by simp) ?_
  refine AllReadyH.cons rfl (fun K hK => ?_) AllReadyH.nil
  rw [if_pos (by rfl)]
  go_wp2_with (go_at_call 70; refine HS.mono ?_; rintro e w4 ⟨rfl, hpp⟩)
  have q9 := (hpp.blk hcol k9f (by omega))
  have q8 := (hpp.blk hcol k8f (by omega))
  have q5 := (hpp.blk hcol k5f (by omega))
  have qw := (hpp.blk hcol kwf (by omega))
  have c9 := q9.get (j := 0) (v := .bool false) rfl
  have f9 := q9.free 0
  refine hK.out _ _ ⟨⟨q5.get (j := 1) rfl, q5.get (j := 4) rfl⟩, qw.cell⟩ (fun hHeld => ?_)
  clear hK K hHeld2
  refine wpAnyH_take' (i := 9) (d := 60) (v := .pointer (some ⟨g9, 0, none⟩)) rfl rfl (by kernel_rfl) (by kernel_rfl) (by kernel_rfl) (fun _ _ _ h => h) (Or.inl ⟨by rfl, fun w hSw => ?_⟩) hHeld ?_
  · go_simp
  simp only [Act.put, List.setIfInBounds_toArray, List.set_cons_zero, List.set_cons_succ]
  refine wpAnyH_ready (rs := [10]) (by kernel_rfl) (by simp) ?_
  refine AllReadyH.cons rfl (fun K hK => ?_) AllReadyH.nil
  rw [if_pos (by rfl)]
  have HPP : Hid (_) := hpp
  clear hpp
  go_simp
  have q5s : Blk (w4.setCell ⟨g9, 0, none⟩ (.bool ok)) g5 (opC 5 a b n f) := q5.far hne59
  have qws : Blk (w4.setCell ⟨g9, 0, none⟩ (.bool ok)) gw (cellsL W) := qw.far (by omega)
  refine hK.out _ _ ⟨⟨q5s.get (j := 1) rfl, q5s.get (j := 4) rfl⟩, qws.cell⟩ (fun hHeld2 => ?_)
  clear hK K
  refine wpAnyH_done (by kernel_rfl) ?_ _
  clear hHeld hHeld2 q5s qws q5 qw rwf c51f c54f k5f
  go_upto_region 27 with fail
  have q9s : Blk (w4.setCell ⟨g9, 0, none⟩ (.bool ok)) g9 (ansC ok 0 (List.replicate 32 0) (.slice none 0 0)) := q9.set (by decide) (.bool ok)
  have q8s : Blk (w4.setCell ⟨g9, 0, none⟩ (.bool ok)) g8 ans0 := q8.far hne89
  have o9 := (Only.refl g9 w4).setCell 0 (.bool ok)
  generalize w4.setCell ⟨g9, 0, none⟩ (.bool ok) = w5 at *
  go_wp2_with (first | (refine wpList_load_agg rfl 52 _ rfl g9 rfl _ q9s _ Safg.underlying52 (size52c (by simp)) ?_) | (refine wpList_store_agg rfl 52 _ _ rfl g8 rfl _ _ rfl q8s (ans0_len (by simp)) Safg.size52a ansC_one ?_; intro w6 q86 o8))
  have hpp := HPP.out
  refine bodyPost_ret (results_cell1 Safg.results20 _ w6 g8 _ _ rfl q86 Safg.underlying52 rfl (size52c (by simp))) rfl ⟨none, by rw [← HOK.out]; rfl, RdNew.nothing _ _, by have hE := MPost.end_ h.lt hcol b3f hpp (two_turn o9 o8) (by intro i hi; simp at hi; rcases hi with rfl | rfl <;> omega); rw [← HW.out] at hE; exact hE⟩


theorem playMem_any (w : World) (B T : Nat) (col : Nat → Nat) (fv : Value) (fvs : List Value) (F : List (List Nat)) (h : Md B T w col fv fvs F) (hF : FOk F) (hcol : ∀ k, w.heap.size ≤ k → col k = 2) (hBw : B ≤ w.heap.size) (k a b n f gs : Nat) (hk : k ≤ 10) (ha : a < 4294967296) (hb : b < 4294967296) (hn : n < 4294967296) (hf : f < 256) (os : Own w gs (fillL 40 f)) :
    Calls Safg.prog 20 #[.pointer (some ⟨T, 10, none⟩), .agg (opC k a b n f).toArray, .slice (some ⟨gs, 0, none⟩) 40 40, .int .u64 (b : Int)] w fun e w' => ∃ ra, e = .returned (.agg (ansC (stepOk F k a b n) (stepSize F k) (stepWord F k a) (.slice ra (stepRead F k a n).length (stepRead F k a n).length)).toArray) ∧ RdNew w.heap.size w' ra (stepRead F k a n) ∧ MPost B T w w' col (stepF F k a b n f) := by
  obtain rfl | rfl | rfl | rfl | rfl | rfl | rfl | rfl | rfl | rfl | rfl : k = 0 ∨ k = 1 ∨ k = 2 ∨ k = 3 ∨ k = 4 ∨ k = 5 ∨ k = 6 ∨ k = 7 ∨ k = 8 ∨ k = 9 ∨ k = 10 := by omega
  · exact playMem_any_0 w B T col fv fvs F h hF hcol hBw a b n f gs ha hb hn hf os
  · exact playMem_any_1 w B T col fv fvs F h hF hcol hBw a b n f gs ha hb hn hf os
  · exact playMem_any_2 w B T col fv fvs F h hF hcol hBw a b n f gs ha hb hn hf os
  · exact playMem_any_3 w B T col fv fvs F h hF hcol hBw a b n f gs ha hb hn hf os
  · exact playMem_any_4 w B T col fv fvs F h hF hcol hBw a b n f gs ha hb hn hf os
  · exact playMem_any_5 w B T col fv fvs F h hF hcol hBw a b n f gs ha hb hn hf os
  · exact playMem_any_6 w B T col fv fvs F h hF hcol hBw a b n f gs ha hb hn hf os
  · exact playMem_any_7 w B T col fv fvs F h hF hcol hBw a b n f gs ha hb hn hf os
  · exact playMem_any_8 w B T col fv fvs F h hF hcol hBw a b n f gs ha hb hn hf os
  · exact playMem_any_9 w B T col fv fvs F h hF hcol hBw a b n f gs ha hb hn hf os
  · exact playMem_any_10 w B T col fv fvs F h hF hcol hBw a b n f gs ha hb hn hf os

end Go.Proofs.Ygcsaf
