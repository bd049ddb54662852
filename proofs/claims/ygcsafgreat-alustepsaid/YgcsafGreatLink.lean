/-
  The plain link: 32 bytes against four limbs against digits.
-/
import Derived.Test.YgcsafGreatYp9
import Derived.Test.YgcsafGreatBEW
import Derived.Test.YgcsafGreatNBytes
namespace Go.Proofs.YgcsafGreat
open Go.RowKit
set_option linter.unusedVariables false
set_option linter.unusedSimpArgs false

theorem be8_list {L : List Nat} (h : 8 ≤ L.length) : beV L = D.val (L.take 8).reverse := by
  match L, h with
  | a0 :: a1 :: a2 :: a3 :: a4 :: a5 :: a6 :: a7 :: r, _ =>
    simp only [beV, List.getD_cons_zero, List.getD_cons_succ, List.take_succ_cons, List.take_zero, List.reverse_cons, List.reverse_nil, List.nil_append, List.cons_append, D.val, Nat.mul_zero, Nat.add_zero]
theorem val_rev_split {L : List Nat} (h : 8 ≤ L.length) : D.val L.reverse = D.val (L.drop 8).reverse + 256 ^ (L.length - 8) * beV L := by
  conv => lhs; rw [← List.take_append_drop 8 L]
  rw [List.reverse_append, D.val_append, List.length_reverse, List.length_drop, be8_list h]
theorem val_wdOf {L : List Nat} (h : L.length = 32) : (wdOf L).val = D.val L.reverse := by
  rw [val_rev_split (by omega), val_rev_split (L := L.drop 8) (by rw [List.length_drop]; omega), val_rev_split (L := (L.drop 8).drop 8) (by rw [List.length_drop, List.length_drop]; omega), val_rev_split (L := ((L.drop 8).drop 8).drop 8) (by rw [List.length_drop, List.length_drop, List.length_drop]; omega)]
  simp only [List.drop_drop, List.length_drop, h]
  have e : L.drop 32 = [] := List.drop_eq_nil_of_le (by omega)
  rw [show 8 + 8 + 8 + 8 = 32 from rfl, e]
  show beV (L.drop 24) + b64 * (beV (L.drop 16) + b64 * (beV (L.drop 8) + b64 * beV L)) = D.val ([] : List Nat).reverse + 256 ^ 0 * beV (L.drop 24) + 256 ^ 8 * beV (L.drop 16) + 256 ^ 16 * beV (L.drop 8) + 256 ^ 24 * beV L
  generalize beV (L.drop 24) = x0
  generalize beV (L.drop 16) = x1
  generalize beV (L.drop 8) = x2
  generalize beV L = x3
  rw [b64_eq, show D.val ([] : List Nat).reverse = 0 from rfl, show (256 : Nat) ^ 0 = 1 from rfl, show (256 : Nat) ^ 8 = 18446744073709551616 from rfl, show (256 : Nat) ^ 16 = 340282366920938463463374607431768211456 from rfl, show (256 : Nat) ^ 24 = 6277101735386680763835789423207666416102355444464034512896 from rfl]
  omega
theorem be8_val (x : Nat) (h : x < 18446744073709551616) : x % 256 + 256 * (x / 256 % 256 + 256 * (x / 65536 % 256 + 256 * (x / 16777216 % 256 + 256 * (x / 4294967296 % 256 + 256 * (x / 1099511627776 % 256 + 256 * (x / 281474976710656 % 256 + 256 * (x / 72057594037927936 % 256))))))) = x := by
  omega
theorem wdOf_beL {a : Wd4} (h : a.Ok) : wdOf (beL a) = a := by
  have e0 := be8_val a.x0 h.h0
  have e1 := be8_val a.x1 h.h1
  have e2 := be8_val a.x2 h.h2
  have e3 := be8_val a.x3 h.h3
  obtain ⟨x0, x1, x2, x3⟩ := a
  simp only at e0 e1 e2 e3
  simp only [wdOf, beL, putL, List.replicate, List.set_cons_zero, List.set_cons_succ, List.drop_succ_cons, List.drop_zero, beV, List.getD_cons_zero, List.getD_cons_succ, Nat.reduceAdd, e0, e1, e2, e3]
theorem val_beL {a : Wd4} (h : a.Ok) : D.val (beL a).reverse = a.val := by
  rw [← val_wdOf (beL_length a), wdOf_beL h]
theorem be32_eq {B l : List Nat} {s : Wd4} (hB : B.length = 32) (dl : D.Dig l) (hs : s.Ok) (h : ∀ j, j < 32 → B.getD (31 - j) 0 = (D.trimL l).getD j 0) (hv : D.val l = s.val) : B = beL s := by
  refine D.ext_getD (by rw [hB, beL_length]) fun j hj => ?_
  rw [hB] at hj
  have h1 := h (31 - j) (by omega)
  rw [show 31 - (31 - j) = j by omega] at h1
  have dr : D.Dig (beL s).reverse := fun x hx => beL_dig s x (List.mem_reverse.1 hx)
  have h2 := D.getD_reverse (l := (beL s)) (j := 31 - j) (by rw [beL_length]; omega)
  rw [beL_length, show 32 - 1 - (31 - j) = j by omega] at h2
  rw [h1, ← h2, D.getD_val (D.trimL_dig dl), D.getD_val dr, D.trimL_val, hv, val_beL hs]
theorem trim_small {l : List Nat} {s : Wd4} (dl : D.Dig l) (hs : s.Ok) (hv : D.val l = s.val) : (D.trimL l).length ≤ 32 := by
  have e : D.trimL l = D.trimL (beL s).reverse := D.trimL_eq dl (fun x hx => beL_dig s x (List.mem_reverse.1 hx)) (by rw [hv, val_beL hs])
  rw [e]
  refine Nat.le_trans (D.trimL_len _) ?_
  rw [List.length_reverse, beL_length]
  exact Nat.le_refl _
theorem bytes_trim {l : List Nat} (dl : D.Dig l) : Bytes (D.val l) (D.trimL l).length := by
  constructor
  · rw [← D.trimL_val]; exact D.val_lt (D.trimL_dig dl)
  · intro h
    rw [← D.trimL_val]
    exact D.Nm.val_ge (D.trimL_nm l) (by intro e; rw [e] at h; exact absurd h (by decide))
theorem limb_and {x x' y y' : Nat} (h : x < 2 ^ 64) (h' : x' < 2 ^ 64) : (x &&& x') + 2 ^ 64 * (y &&& y') = (x + 2 ^ 64 * y) &&& (x' + 2 ^ 64 * y') := by
  apply Nat.eq_of_testBit_eq
  intro i
  rw [Nat.testBit_and, Nat.add_comm x, Nat.add_comm x', Nat.add_comm, Nat.testBit_two_pow_mul_add _ (Nat.and_lt_two_pow _ h'), Nat.testBit_two_pow_mul_add _ h, Nat.testBit_two_pow_mul_add _ h', Nat.testBit_and, Nat.testBit_and]
  split <;> rfl
theorem limb_or {x x' y y' : Nat} (h : x < 2 ^ 64) (h' : x' < 2 ^ 64) : (x ||| x') + 2 ^ 64 * (y ||| y') = (x + 2 ^ 64 * y) ||| (x' + 2 ^ 64 * y') := by
  apply Nat.eq_of_testBit_eq
  intro i
  rw [Nat.testBit_or, Nat.add_comm x, Nat.add_comm x', Nat.add_comm, Nat.testBit_two_pow_mul_add _ (Nat.or_lt_two_pow h h'), Nat.testBit_two_pow_mul_add _ h, Nat.testBit_two_pow_mul_add _ h', Nat.testBit_or, Nat.testBit_or]
  split <;> rfl
theorem limb_xor {x x' y y' : Nat} (h : x < 2 ^ 64) (h' : x' < 2 ^ 64) : (x ^^^ x') + 2 ^ 64 * (y ^^^ y') = (x + 2 ^ 64 * y) ^^^ (x' + 2 ^ 64 * y') := by
  apply Nat.eq_of_testBit_eq
  intro i
  rw [Nat.testBit_xor, Nat.add_comm x, Nat.add_comm x', Nat.add_comm, Nat.testBit_two_pow_mul_add _ (Nat.xor_lt_two_pow h h'), Nat.testBit_two_pow_mul_add _ h, Nat.testBit_two_pow_mul_add _ h', Nat.testBit_xor, Nat.testBit_xor]
  split <;> rfl
theorem and_val {a b : Wd4} (ha : a.Ok) (hb : b.Ok) : Wd4.val ⟨a.x0 &&& b.x0, a.x1 &&& b.x1, a.x2 &&& b.x2, a.x3 &&& b.x3⟩ = a.val &&& b.val := by
  unfold Wd4.val
  rw [b64_pow, limb_and ha.h2 hb.h2, limb_and ha.h1 hb.h1, limb_and ha.h0 hb.h0]
theorem or_val {a b : Wd4} (ha : a.Ok) (hb : b.Ok) : Wd4.val ⟨a.x0 ||| b.x0, a.x1 ||| b.x1, a.x2 ||| b.x2, a.x3 ||| b.x3⟩ = a.val ||| b.val := by
  unfold Wd4.val
  rw [b64_pow, limb_or ha.h2 hb.h2, limb_or ha.h1 hb.h1, limb_or ha.h0 hb.h0]
theorem xor_val {a b : Wd4} (ha : a.Ok) (hb : b.Ok) : Wd4.val ⟨a.x0 ^^^ b.x0, a.x1 ^^^ b.x1, a.x2 ^^^ b.x2, a.x3 ^^^ b.x3⟩ = a.val ^^^ b.val := by
  unfold Wd4.val
  rw [b64_pow, limb_xor ha.h2 hb.h2, limb_xor ha.h1 hb.h1, limb_xor ha.h0 hb.h0]
end Go.Proofs.YgcsafGreat
