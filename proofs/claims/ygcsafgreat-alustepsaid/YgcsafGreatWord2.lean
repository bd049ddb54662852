/-
  'u256': Add (166), Sub (59), Lt (164), Gt (165), negative (331), signed (330), IsZero (205), U64 (235), below (333), And (219), Or (220), Xor (221), Not (222).
-/
import Derived.Test.YgcsafGreatWord
namespace Go.Proofs.YgcsafGreat
open Go.RowKit
set_option linter.unusedVariables false
set_option linter.unusedSimpArgs false

theorem b64_pos : 0 < b64 := by rw [b64_eq]; omega
theorem b256_pos : 0 < b256 := by unfold b256; have := b64_pos; exact Nat.mul_pos this (Nat.mul_pos this (Nat.mul_pos this this))

theorem add_mod {s x k : Nat} (h : s + b256 * k = x) (hs : s < b256) : x % b256 = s := by
  rw [← h, Nat.add_mul_mod_self_left, Nat.mod_eq_of_lt hs]
theorem sub_mod {s a b k : Nat} (h : a + b256 * k = s + b) (hs : s < b256) (hb : b < b256) : (a + (b256 - b)) % b256 = s := by
  have e : a + (b256 - b) + b256 * k = s + b256 := by omega
  have e2 : (a + (b256 - b) + b256 * k) % b256 = s := by rw [e, Nat.add_mod_right, Nat.mod_eq_of_lt hs]
  rwa [Nat.add_mul_mod_self_left] at e2
theorem sub_under {s a b k : Nat} (h : a + b256 * k = s + b) (hs : s < b256) (ha : a < b256) (hb : b < b256) (hk : k ≤ 1) : decide (k ≠ 0) = decide (a < b) := by
  congr 1
  apply propext
  rcases (show k = 0 ∨ k = 1 by omega) with rfl | rfl
  · simp at h ⊢; omega
  · simp at h ⊢; omega


theorem results_cell1 {fn : Func} {p : Tmp} {ty : TypeId} (h : fn.results = #[.cell p ty]) (tmps : Array Value) (w : World) (g : Nat) (cs : List Value) (d : TypeDesc) (hp : tmps.getD p undef = .pointer (some ⟨g, 0, none⟩)) (hb : Blk w g cs)
    (hu : Safg.prog.underlying ty = some d) (hd : d.isRow = true) (hi : (Safg.prog.info? ty).map (·.size) = some cs.length) : (results fn tmps).run Safg.prog w = .ok (.agg cs.toArray) w := by
  have hp' : tmps[p]?.getD undef = .pointer (some ⟨g, 0, none⟩) := by simpa using hp
  simp [results, h, hp', asAddr, run_loadVar_mid w g 0 ty cs d hb.cell hu hd hi]


set_option maxRecDepth 100000 in
set_option maxHeartbeats 1000000 in
theorem uAdd_any (w : World) (a b : Wd4) (ha : a.Ok) (hb : b.Ok) :
    Calls Safg.prog 166 #[a.v, b.v] w fun e w' => ∃ s : Wd4, s.Ok ∧ s.val = (a.val + b.val) % b256 ∧ e = .returned s.v ∧ Below w.heap.size w w' := by
  go_enter Safg.func166, Safg.ntmps166
  go_upto_region 1 with (first | (refine wpList_box_agg rfl 65 (.tmp 0) rfl a.cells rfl ?_; intro w1 g2 hg2 k2 c2) | (refine wpList_box_agg rfl 65 (.tmp 1) rfl b.cells rfl ?_; intro w2 g3 hg3 k3 c3) | (refine wpList_alloc_agg rfl 65 rfl _ Safg.zero65 ?_; intro w3 g4 hg4 k4 c4))
  have k2' := (k2.below c3 k2.lt).below c4 (Nat.lt_of_lt_of_le k2.lt c3.size)
  have k3' := k3.below c4 k3.lt
  have b03 : Below w.heap.size w w3 := (c2.trans (c3.mono c2.size)).trans (c4.mono (Nat.le_trans c2.size c3.size))
  have hs := c2.size
  have hs2 := c3.size
  go_upto_region 2 with (first | (refine wpList_load_mid rfl 65 (.tmp 2) rfl g2 0 rfl _ _ k2'.cell Safg.under65 rfl Safg.size65 ?_) | (refine wpList_load_mid rfl 65 (.tmp 3) rfl g3 0 rfl _ _ k3'.cell Safg.under65 rfl Safg.size65 ?_) | (go_at_call 163; refine (addOver_any w3 a b ha hb).mono ?_; rintro e w4 ⟨s, k, hsok, hk1, hsum, rfl, b4⟩) | (refine wpList_alloc_agg rfl 65 rfl _ Safg.zero65 ?_; intro w5 g5 hg5 k5 c5) | (refine wpList_store_agg rfl 65 _ _ rfl g5 rfl _ s.cells rfl k5 rfl Safg.size65 (Wd4.one _) ?_; intro w6 k6 n6))
  have k4' := (k4.below b4 k4.lt).below c5 (Nat.lt_of_lt_of_le k4.lt b4.size)
  have hne : g4 ≠ g5 := by have := k4.lt; have := b4.size; omega
  have k4'' : Blk w6 g4 _ := ⟨by rw [n6.size]; exact k4'.lt, fun j v hv => by rw [n6.cell (p := ⟨g4, 0 + j, none⟩) hne]; exact k4'.cell j v hv, fun o => by rw [n6.frozen (p := ⟨g4, o, none⟩) hne]; exact k4'.free o⟩
  go_wp2_with (first | (refine wpList_load_mid rfl 65 (.tmp 5) rfl g5 0 rfl _ _ k6.cell Safg.under65 rfl Safg.size65 ?_) | (refine wpList_store_agg rfl 65 _ _ rfl g4 rfl _ s.cells rfl k4'' rfl Safg.size65 (Wd4.one _) ?_; intro w7 k7 n7))
  refine bodyPost_ret (results_cell1 Safg.results166 _ w7 g4 _ _ rfl k7 Safg.under65 rfl Safg.size65) rfl ⟨s, hsok, (add_mod hsum (Wd4.lt hsok)).symm, rfl, ?_⟩
  refine ((b03.trans (b4.mono b03.size)).trans (c5.mono ?_)).trans ((n6.below ?_).trans (n7.below ?_))
  · have := b03.size; have := b4.size; omega
  · have := b03.size; have := b4.size; omega
  · omega


set_option maxRecDepth 100000 in
set_option maxHeartbeats 1000000 in
theorem uSub_any (w : World) (a b : Wd4) (ha : a.Ok) (hb : b.Ok) :
    Calls Safg.prog 59 #[a.v, b.v] w fun e w' => ∃ s : Wd4, s.Ok ∧ s.val = (a.val + (b256 - b.val)) % b256 ∧ e = .returned s.v ∧ Below w.heap.size w w' := by
  go_enter Safg.func59, Safg.ntmps59
  go_upto_region 1 with (first | (refine wpList_box_agg rfl 65 (.tmp 0) rfl a.cells rfl ?_; intro w1 g2 hg2 k2 c2) | (refine wpList_box_agg rfl 65 (.tmp 1) rfl b.cells rfl ?_; intro w2 g3 hg3 k3 c3) | (refine wpList_alloc_agg rfl 65 rfl _ Safg.zero65 ?_; intro w3 g4 hg4 k4 c4))
  have k2' := (k2.below c3 k2.lt).below c4 (Nat.lt_of_lt_of_le k2.lt c3.size)
  have k3' := k3.below c4 k3.lt
  have b03 : Below w.heap.size w w3 := (c2.trans (c3.mono c2.size)).trans (c4.mono (Nat.le_trans c2.size c3.size))
  have hs := c2.size
  have hs2 := c3.size
  go_upto_region 2 with (first | (refine wpList_load_mid rfl 65 (.tmp 2) rfl g2 0 rfl _ _ k2'.cell Safg.under65 rfl Safg.size65 ?_) | (refine wpList_load_mid rfl 65 (.tmp 3) rfl g3 0 rfl _ _ k3'.cell Safg.under65 rfl Safg.size65 ?_) | (go_at_call 172; refine (subUnder_any w3 a b ha hb).mono ?_; rintro e w4 ⟨s, k, hsok, hk1, hsum, rfl, b4⟩) | (refine wpList_alloc_agg rfl 65 rfl _ Safg.zero65 ?_; intro w5 g5 hg5 k5 c5) | (refine wpList_store_agg rfl 65 _ _ rfl g5 rfl _ s.cells rfl k5 rfl Safg.size65 (Wd4.one _) ?_; intro w6 k6 n6))
  have k4' := (k4.below b4 k4.lt).below c5 (Nat.lt_of_lt_of_le k4.lt b4.size)
  have hne : g4 ≠ g5 := by have := k4.lt; have := b4.size; omega
  have k4'' : Blk w6 g4 _ := ⟨by rw [n6.size]; exact k4'.lt, fun j v hv => by rw [n6.cell (p := ⟨g4, 0 + j, none⟩) hne]; exact k4'.cell j v hv, fun o => by rw [n6.frozen (p := ⟨g4, o, none⟩) hne]; exact k4'.free o⟩
  go_wp2_with (first | (refine wpList_load_mid rfl 65 (.tmp 5) rfl g5 0 rfl _ _ k6.cell Safg.under65 rfl Safg.size65 ?_) | (refine wpList_store_agg rfl 65 _ _ rfl g4 rfl _ s.cells rfl k4'' rfl Safg.size65 (Wd4.one _) ?_; intro w7 k7 n7))
  refine bodyPost_ret (results_cell1 Safg.results59 _ w7 g4 _ _ rfl k7 Safg.under65 rfl Safg.size65) rfl ⟨s, hsok, (sub_mod hsum (Wd4.lt hsok) (Wd4.lt hb)).symm, rfl, ?_⟩
  refine ((b03.trans (b4.mono b03.size)).trans (c5.mono ?_)).trans ((n6.below ?_).trans (n7.below ?_))
  · have := b03.size; have := b4.size; omega
  · have := b03.size; have := b4.size; omega
  · omega


set_option maxRecDepth 100000 in
set_option maxHeartbeats 1000000 in
theorem uLt_any (w : World) (a b : Wd4) (ha : a.Ok) (hb : b.Ok) :
    Calls Safg.prog 164 #[a.v, b.v] w fun e w' => e = .returned (.bool (decide (a.val < b.val))) ∧ Below w.heap.size w w' := by
  obtain ⟨q, HQ⟩ : ∃ q, Hid (decide (a.val < b.val) = q) := ⟨_, rfl⟩
  rw [HQ.out]
  go_enter Safg.func164, Safg.ntmps164
  go_upto_region 1 with (first | (refine wpList_box_agg rfl 65 (.tmp 0) rfl a.cells rfl ?_; intro w1 g2 hg2 k2 c2) | (refine wpList_box_agg rfl 65 (.tmp 1) rfl b.cells rfl ?_; intro w2 g3 hg3 k3 c3))
  have k2' := k2.below c3 k2.lt
  have b02 : Below w.heap.size w w2 := c2.trans (c3.mono c2.size)
  go_upto_region 2 with (first | (refine wpList_load_mid rfl 65 (.tmp 2) rfl g2 0 rfl _ _ k2'.cell Safg.under65 rfl Safg.size65 ?_) | (refine wpList_load_mid rfl 65 (.tmp 3) rfl g3 0 rfl _ _ k3.cell Safg.under65 rfl Safg.size65 ?_) | (go_at_call 172; refine (subUnder_any w2 a b ha hb).mono ?_; rintro e w4 ⟨s, k, hsok, hk1, hsum, rfl, b4⟩; have HB : Hid (decide (k ≠ 0) = q) := (sub_under hsum (Wd4.lt hsok) (Wd4.lt ha) (Wd4.lt hb) hk1).trans HQ.out; rw [HB.out]; clear hsum) | (refine wpList_alloc_agg rfl 65 rfl _ Safg.zero65 ?_; intro w5 g5 hg5 k5 c5) | (refine wpList_store_agg rfl 65 _ _ rfl g5 rfl _ s.cells rfl k5 rfl Safg.size65 (Wd4.one _) ?_; intro w6 k6 n6))
  go_wp2
  go_ret
  refine ⟨rfl, ((b02.trans (b4.mono b02.size)).trans (c5.mono ?_)).trans (n6.below ?_)⟩
  · have := b02.size; have := b4.size; omega
  · have := b02.size; have := b4.size; omega

set_option maxRecDepth 100000 in
set_option maxHeartbeats 1000000 in
theorem uGt_any (w : World) (a b : Wd4) (ha : a.Ok) (hb : b.Ok) :
    Calls Safg.prog 165 #[a.v, b.v] w fun e w' => e = .returned (.bool (decide (b.val < a.val))) ∧ Below w.heap.size w w' := by
  obtain ⟨q, HQ⟩ : ∃ q, Hid (decide (b.val < a.val) = q) := ⟨_, rfl⟩
  rw [HQ.out]
  go_enter Safg.func165, Safg.ntmps165
  go_upto_region 1 with (first | (refine wpList_box_agg rfl 65 (.tmp 0) rfl a.cells rfl ?_; intro w1 g2 hg2 k2 c2) | (refine wpList_box_agg rfl 65 (.tmp 1) rfl b.cells rfl ?_; intro w2 g3 hg3 k3 c3))
  have k2' := k2.below c3 k2.lt
  have b02 : Below w.heap.size w w2 := c2.trans (c3.mono c2.size)
  have H := uLt_any w2 b a hb ha
  rw [HQ.out] at H
  go_wp2_with (first | (refine wpList_load_mid rfl 65 (.tmp 2) rfl g2 0 rfl _ _ k2'.cell Safg.under65 rfl Safg.size65 ?_) | (refine wpList_load_mid rfl 65 (.tmp 3) rfl g3 0 rfl _ _ k3.cell Safg.under65 rfl Safg.size65 ?_) | (go_at_call 164; refine H.mono ?_; rintro e w4 ⟨rfl, b4⟩))
  go_ret
  exact ⟨rfl, b02.trans (b4.mono b02.size)⟩

set_option maxRecDepth 100000 in
set_option maxHeartbeats 1000000 in
theorem negative_any (w : World) (a : Wd4) (ha : a.Ok) :
    Calls Safg.prog 331 #[a.v] w fun e w' => e = .returned (.bool (decide (9223372036854775808 ≤ a.x3))) ∧ Below w.heap.size w w' := by
  obtain ⟨q, HQ⟩ : ∃ q, Hid (decide (9223372036854775808 ≤ a.x3) = q) := ⟨_, rfl⟩
  rw [HQ.out]
  have h3 := ha.h3
  have t1 : (((a.x3 : Int) / 9223372036854775808) != 0) = q := by
    rw [← HQ.out]
    by_cases h : 9223372036854775808 ≤ a.x3
    · rw [decide_eq_true h]; simp; omega
    · rw [decide_eq_false h]; simp; omega
  go_enter Safg.func331, Safg.ntmps331
  go_upto_region 1 with (refine wpList_box_agg rfl 65 (.tmp 0) rfl a.cells rfl ?_; intro w1 g2 hg2 k2 c2)
  have A3 := k2.get (j := 3) (v := .int .u64 (a.x3 : Int)) rfl
  generalize a.x3 = x3 at *
  go_wp2
  go_ret
  exact ⟨rfl, c2⟩

end Go.Proofs.YgcsafGreat
