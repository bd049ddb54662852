/-
  'u256.Word.NBytes' (376); 'mach.ExpCost' (319).
-/
import Derived.Test.YgcsafGreatExp
namespace Go.Proofs.YgcsafGreat
open Go.RowKit
set_option linter.unusedVariables false
set_option linter.unusedSimpArgs false

/-- m bytes are in use. -/
def Bytes (v m : Nat) : Prop := v < 256 ^ m ∧ (0 < m → 256 ^ (m - 1) ≤ v)
theorem Bytes.unique {v m n : Nat} (h : Bytes v m) (k : Bytes v n) : m = n := by
  rcases Nat.lt_trichotomy m n with h1 | h1 | h1
  · have a := k.2 (by omega)
    have : 256 ^ m ≤ 256 ^ (n - 1) := Nat.pow_le_pow_right (by omega) (by omega)
    have := h.1
    omega
  · exact h1
  · have a := h.2 (by omega)
    have : 256 ^ n ≤ 256 ^ (m - 1) := Nat.pow_le_pow_right (by omega) (by omega)
    have := k.1
    omega
theorem nbytes_top {b : Wd4} (hb : b.Ok) {n : Nat} (hn : 1 ≤ n) (h : IsLimbs b.l n) : Bytes b.val (8 * (n - 1) + (Lib.bitLen (b.l.getD (n - 1) 0) + 7) / 8) := by
  obtain ⟨h4, l1, l2, t1, t2⟩ := top_limb hb hn h
  generalize Lib.bitLen (b.l.getD (n - 1) 0) = L at *
  constructor
  · refine Nat.lt_of_lt_of_le t2 ?_
    rw [show (256 : Nat) = 2 ^ 8 from rfl, ← Nat.pow_mul]
    exact Nat.pow_le_pow_right (by omega) (by omega)
  · intro _
    refine Nat.le_trans ?_ t1
    rw [show (256 : Nat) = 2 ^ 8 from rfl, ← Nat.pow_mul]
    exact Nat.pow_le_pow_right (by omega) (by omega)

set_option maxRecDepth 100000 in
set_option maxHeartbeats 1000000 in
theorem nbytes_any (w : World) (b : Wd4) (hb : b.Ok) :
    Calls Safg.prog 376 #[b.v] w fun e w' => ∃ m : Nat, Bytes b.val m ∧ m ≤ 32 ∧ e = .returned (.int .u8 (m : Int)) ∧ Below w.heap.size w w' := by
  obtain ⟨n, hn⟩ := limbs_of b.l
  have HL : ∀ w, Calls Safg.prog 187 #[b.v] w fun e w' => e = .returned (.int .u8 (n : Int)) ∧ Below w.heap.size w w' := fun w =>
    (limbs_any w b hb).mono fun e w' ⟨m, _, h1, h2, h3⟩ => ⟨by rw [h2, IsLimbs.unique h1 hn], h3⟩
  rcases Nat.eq_zero_or_pos n with h0 | h0
  · subst h0
    have HB : Hid (Bytes b.val 0) := ⟨by rw [limbs_zero hn]; decide, fun h => absurd h (by omega)⟩
    clear hn
    go_enter Safg.func376, Safg.ntmps376
    go_wp2_with (first | (refine wpList_box_agg rfl 65 (.tmp 0) rfl b.cells rfl ?_; intro w1 g1 hg1 k1 c1) | (refine wpList_load_mid rfl 65 (.tmp 1) rfl g1 0 rfl _ _ k1.cell Safg.under65 rfl Safg.size65 ?_) | (go_at_call 187; refine (HL _).mono ?_; rintro e w2 ⟨rfl, b2⟩))
    go_ret
    exact ⟨0, HB.out, by omega, rfl, c1.trans (b2.mono c1.size)⟩
  · have hB := nbytes_top hb h0 hn
    obtain ⟨hn4, L1, L2, _, _⟩ := top_limb hb h0 hn
    have htop := (Wd4.lim hb).getD (n - 1)
    obtain ⟨x, HX⟩ : ∃ x, Hid (b.l.getD (n - 1) 0 = x) := ⟨_, rfl⟩
    rw [HX.out] at hB L1 L2 htop
    have HLEN := fun w => Len64_any w x htop
    obtain ⟨L, HLL⟩ : ∃ L, Hid (Lib.bitLen x = L) := ⟨_, rfl⟩
    rw [HLL.out] at hB L1 L2
    simp only [HLL.out] at HLEN
    obtain ⟨m, hm⟩ : ∃ m, n - 1 = m := ⟨_, rfl⟩
    have q0 : ((n : Int) == 0) = false := by simp; omega
    have q1 : (n : Int) - 1 = (m : Int) := by omega
    obtain ⟨q, hq⟩ : ∃ q, (L + 7) / 8 = q := ⟨_, rfl⟩
    have q2 : ((L : Int) + 7) / 8 = (q : Int) := by omega
    have q2' : Int.tdiv ((L : Int) + 7) 8 = (q : Int) := by rw [Int.tdiv_eq_ediv_of_nonneg (by omega)]; exact q2
    rw [hm] at HX hB
    rw [hq] at hB
    have HB : Hid (Bytes b.val (8 * m + q)) := hB
    have hm4 : m < 4 := by omega
    have hq8 : q ≤ 8 := by omega
    clear hB hn hm hq htop HLL
    go_enter Safg.func376, Safg.ntmps376
    go_upto_region 4 with (first | (refine wpList_box_agg rfl 65 (.tmp 0) rfl b.cells rfl ?_; intro w1 g1 hg1 k1 c1) | (refine wpList_load_mid rfl 65 (.tmp 1) rfl g1 0 rfl _ _ k1.cell Safg.under65 rfl Safg.size65 ?_) | (go_at_call 187; refine (HL _).mono ?_; rintro e w2 ⟨rfl, b2⟩))
    have k2 := k1.below b2 k1.lt
    have cm := (show OwnU w2 g1 b.l from Blk.ownU k2).cell m hm4
    rw [HX.out] at cm
    go_wp2_with (go_at_call 188; refine (HLEN _).mono ?_; rintro e w7 ⟨rfl, hw⟩; subst hw)
    go_ret
    exact ⟨8 * m + q, HB.out, by omega, by first | rfl | (apply ret_int; omega) | (apply ret_int; simp; omega), c1.trans (b2.mono c1.size)⟩
end Go.Proofs.YgcsafGreat
