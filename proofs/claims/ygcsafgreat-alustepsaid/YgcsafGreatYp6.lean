/-
  'yp.bitwise' (110).
-/
import Derived.Test.YgcsafGreatYp5
namespace Go.Proofs.YgcsafGreat
open Go.RowKit
set_option linter.unusedVariables false
set_option linter.unusedSimpArgs false

theorem pow256 (j : Nat) : 256 ^ j = 2 ^ (8 * j) := by rw [Nat.pow_mul]
theorem getD_beyond {L : List Nat} {k : Nat} (h : L.length ≤ k) : L.getD k 0 = 0 := by rw [List.getD_eq_getElem?_getD, List.getElem?_eq_none h]; rfl
theorem val_bitwise {f : Nat → Nat → Nat} (hf : ∀ x y j, f (x / 2 ^ (8 * j) % 256) (y / 2 ^ (8 * j) % 256) = f x y / 2 ^ (8 * j) % 256) {L X Y : List Nat} (hL : L.length = 32) (hX : D.Dig X) (hY : D.Dig Y)
    (h : ∀ j, j < 32 → L.getD j 0 = f (X.getD j 0) (Y.getD j 0)) (hb : f (D.val X) (D.val Y) < b256) : D.val L = f (D.val X) (D.val Y) := by
  have := D.val_of_digits (x := f (D.val X) (D.val Y)) (L := L) 0 (fun j hj => by
    rw [Nat.zero_add, h j (by omega), D.getD_val hX, D.getD_val hY, pow256, hf])
  rw [this, hL, Nat.pow_zero, Nat.div_one, ← b256_pow, Nat.mod_eq_of_lt hb]
theorem and_digit (x y j : Nat) : (x / 2 ^ (8 * j) % 256) &&& (y / 2 ^ (8 * j) % 256) = (x &&& y) / 2 ^ (8 * j) % 256 := by
  rw [show (256 : Nat) = 2 ^ 8 from rfl, ← Nat.and_mod_two_pow, ← Nat.and_div_two_pow]
theorem or_digit (x y j : Nat) : (x / 2 ^ (8 * j) % 256) ||| (y / 2 ^ (8 * j) % 256) = (x ||| y) / 2 ^ (8 * j) % 256 := by
  rw [show (256 : Nat) = 2 ^ 8 from rfl, ← Nat.or_mod_two_pow, ← Nat.or_div_two_pow]
theorem xor_digit (x y j : Nat) : (x / 2 ^ (8 * j) % 256) ^^^ (y / 2 ^ (8 * j) % 256) = (x ^^^ y) / 2 ^ (8 * j) % 256 := by
  rw [show (256 : Nat) = 2 ^ 8 from rfl, ← Nat.xor_mod_two_pow, ← Nat.xor_div_two_pow]
set_option maxRecDepth 100000 in
theorem u8_not (x : Nat) (hx : x < 256) : bits .xor .u8 (if IntKind.u8.signed = true then -1 else IntKind.u8.max) (x : Int) = ((255 - x : Nat) : Int) := by
  have e : (if IntKind.u8.signed = true then (-1 : Int) else IntKind.u8.max) = ((255 : Nat) : Int) := rfl
  rw [e, u8_xor_nat 255 x (by omega) hx]
  have h : ∀ x : Fin 256, 255 ^^^ x.val = 255 - x.val := by decide
  rw [h ⟨x, hx⟩]
theorem val_not_take {L X : List Nat} : ∀ n, (∀ j, j < n → L.getD j 0 + X.getD j 0 = 255) → D.val (L.take n) + D.val (X.take n) + 1 = 256 ^ n
  | 0, _ => by simp [D.val]
  | n + 1, h => by
    have ih := val_not_take n (fun j hj => h j (by omega))
    have hn := h n (by omega)
    rw [D.val_take_succ, D.val_take_succ, Nat.pow_succ]
    have e : L.getD n 0 * 256 ^ n + X.getD n 0 * 256 ^ n = 255 * 256 ^ n := by rw [← Nat.add_mul, hn]
    omega
theorem val_not {L X : List Nat} (hL : L.length = 32) (hX : X.length ≤ 32) (h : ∀ j, j < 32 → L.getD j 0 = 255 - X.getD j 0) (dX : D.Dig X) : D.val L = b256 - 1 - D.val X := by
  have := val_not_take (L := L) (X := X) 32 (fun j hj => by have h1 := h j hj; have h2 := dX.getD j; omega)
  rw [D.take_all (by omega), D.take_all hX, ← b256_pow] at this
  omega

set_option maxRecDepth 100000 in
set_option maxHeartbeats 2000000 in
theorem bitwise_and (w : World) (a b : Option Addr) (A B : List Nat) (ha : IsNat w a A) (hb : IsNat w b B) (va : D.val A < b256) (vb : D.val B < b256) :
    Calls Safg.prog 110 #[.int .u8 22, .slice a A.length A.length, .slice b B.length B.length] w (NatRes w (D.val A &&& D.val B)) := by
  have la : A.length ≤ 32 := ha.len (by rw [← b256_pow]; exact va)
  have lb : B.length ≤ 32 := hb.len (by rw [← b256_pow]; exact vb)
  obtain ⟨z, HZ⟩ : ∃ z, Hid (D.val A &&& D.val B = z) := ⟨_, rfl⟩
  rw [HZ.out]
  have HV : Hid (∀ L : List Nat, L.length = 32 → (∀ j, j < 32 → L.getD j 0 = A.getD j 0 &&& B.getD j 0) → D.val L = z) := by
    intro L hL h
    rw [← HZ.out]
    exact val_bitwise (f := fun x y => x &&& y) and_digit hL ha.rd.dig hb.rd.dig h (Nat.lt_of_le_of_lt Nat.and_le_left va)
  clear va vb HZ
  go_enter Safg.func110, Safg.ntmps110
  go_upto_region 2 with (refine wpList_make_bytes _ rfl _ _ 98 rfl Safg.underlying98 .i64 .i64 _ _ 32 rfl rfl rfl rfl (by omega) ?_; intro w1 g hg o1 b1)
  go_upto_region 3 with fail
  go_loopw [14] (fun i wr => ∃ (k : Nat) (L : List Nat), k ≤ 32 ∧ i = .int .i64 k ∧ Own wr g L ∧ Only g w1 wr ∧ L.length = 32 ∧ D.Dig L ∧ Hid (∀ j, j < k → L.getD j 0 = A.getD j 0 &&& B.getD j 0)) (fun i _ => 32 - (intOf i).toNat)
  case atStart => exact ⟨0, _, by omega, rfl, o1, Only.refl _ _, by simp, D.Dig.replicate _, fun j hj => absurd hj (by omega)⟩
  case round =>
    obtain ⟨k, L, hk, rfl, ownr, onlyr, hL, hdL, HJ⟩ := hrel
    have br : Below w.heap.size w wr := b1.trans (onlyr.below hg)
    by_cases hlt : k < 32
    · have hcell := ownr.cell k (by omega)
      have hfr := ownr.free k
      have dA := ha.rd.dig.getD k
      have dB := hb.rd.dig.getD k
      have HA : Hid (A.length ≤ k → A.getD k 0 = 0) := fun h => getD_beyond h
      have HB : Hid (B.length ≤ k → B.getD k 0 = 0) := fun h => getD_beyond h
      have CA : k < A.length → ∃ b off, a = some ⟨b, off, none⟩ ∧ b < w.heap.size ∧ wr.cell? ⟨b, off + k, none⟩ = some (.int .u8 ((A.getD k 0 : Nat) : Int)) := fun h => by
        obtain ⟨b', off, e, h1, h2⟩ := ha.rd.cell k h
        exact ⟨b', off, e, h1, by rw [br.cell (p := ⟨b', off + k, none⟩) h1]; exact h2⟩
      have CB : k < B.length → ∃ b' off, b = some ⟨b', off, none⟩ ∧ b' < w.heap.size ∧ wr.cell? ⟨b', off + k, none⟩ = some (.int .u8 ((B.getD k 0 : Nat) : Int)) := fun h => by
        obtain ⟨b', off, e, h1, h2⟩ := hb.rd.cell k h
        exact ⟨b', off, e, h1, by rw [br.cell (p := ⟨b', off + k, none⟩) h1]; exact h2⟩
      have HG : Hid (∀ v : Nat, v = A.getD k 0 &&& B.getD k 0 → ∀ j, j < k + 1 → (L.set k v).getD j 0 = A.getD j 0 &&& B.getD j 0) := by
        intro v hv j hj
        rw [D.getD_set (by omega)]
        by_cases e : j = k
        · subst e; rw [if_pos rfl]; exact hv
        · rw [if_neg e]; exact HJ.out j (by omega)
      obtain ⟨x, HX⟩ : ∃ x, Hid (A.getD k 0 = x) := ⟨_, rfl⟩
      obtain ⟨y, HYY⟩ : ∃ x, Hid (B.getD k 0 = x) := ⟨_, rfl⟩
      rw [HX.out] at CA HA dA HG
      rw [HYY.out] at CB HB dB
      rw [HYY.out] at HG
      have HBT := u8_and_nat x y dA dB
      obtain ⟨v, HVV⟩ : ∃ v, Hid (x &&& y = v) := ⟨_, rfl⟩
      rw [HVV.out] at HBT
      have hv256 : v < 256 := by rw [← HVV.out]; exact Nat.lt_of_le_of_lt Nat.and_le_left dA
      have HG2 : Hid (∀ j, j < k + 1 → (L.set k v).getD j 0 = A.getD j 0 &&& B.getD j 0) := HG.out v HVV.out.symm
      have hset := ownr.setI (k := k) (by omega) v (i := (v : Int)) rfl
      clear HG
      by_cases h1 : k < A.length
      · have t1 : decide ((k : Int) < (A.length : Int)) = true := decide_eq_true (by omega)
        obtain ⟨ab, aoff, rfl, hab, hac⟩ := CA h1
        clear CA HA
        by_cases h2 : k < B.length
        · have t2 : decide ((k : Int) < (B.length : Int)) = true := decide_eq_true (by omega)
          obtain ⟨bb, boff, rfl, hbb, hbc⟩ := CB h2
          clear CB HB
          go_wp2
          go_roundw
          case rel => exact ⟨k + 1, _, by omega, by go_num, hset, onlyr.setCell _ _, by simpa using hL, hdL.set _ hv256, HG2.out⟩
          case measure => simp [intOf]; omega
        · have t2 : decide ((k : Int) < (B.length : Int)) = false := decide_eq_false (by omega)
          obtain rfl := HB.out (by omega)
          rw [show ((0 : Nat) : Int) = 0 from rfl] at HBT
          clear CB HB
          go_wp2
          go_roundw
          case rel => exact ⟨k + 1, _, by omega, by go_num, hset, onlyr.setCell _ _, by simpa using hL, hdL.set _ hv256, HG2.out⟩
          case measure => simp [intOf]; omega
      · have t1 : decide ((k : Int) < (A.length : Int)) = false := decide_eq_false (by omega)
        obtain rfl := HA.out (by omega)
        rw [show ((0 : Nat) : Int) = 0 from rfl] at HBT
        clear CA HA
        by_cases h2 : k < B.length
        · have t2 : decide ((k : Int) < (B.length : Int)) = true := decide_eq_true (by omega)
          obtain ⟨bb, boff, rfl, hbb, hbc⟩ := CB h2
          clear CB HB
          go_wp2
          go_roundw
          case rel => exact ⟨k + 1, _, by omega, by go_num, hset, onlyr.setCell _ _, by simpa using hL, hdL.set _ hv256, HG2.out⟩
          case measure => simp [intOf]; omega
        · have t2 : decide ((k : Int) < (B.length : Int)) = false := decide_eq_false (by omega)
          obtain rfl := HB.out (by omega)
          rw [show ((0 : Nat) : Int) = 0 from rfl] at HBT
          clear CB HB
          go_wp2
          go_roundw
          case rel => exact ⟨k + 1, _, by omega, by go_num, hset, onlyr.setCell _ _, by simpa using hL, hdL.set _ hv256, HG2.out⟩
          case measure => simp [intOf]; omega
    · obtain rfl : k = 32 := by omega
      have hv := HV.out L hL HJ.out
      have hrd := ownr.rd hdL
      rw [hL] at hrd
      have HV2 : Hid (D.val (D.trimL L) = z) := by show _ = _; rw [D.trimL_val]; exact hv
      clear hv
      go_wp2_with (go_at_call 256; refine (norm_any _ _ _ _ L hrd (Nat.le_refl _) (by omega)).mono ?_; rintro e w2 ⟨a', rfl, hm, b3⟩)
      go_ret
      exact ⟨a', _, rfl, hm.nat, HV2.out, br.trans (b3.mono br.size)⟩

set_option maxRecDepth 100000 in
set_option maxHeartbeats 2000000 in
theorem bitwise_or (w : World) (a b : Option Addr) (A B : List Nat) (ha : IsNat w a A) (hb : IsNat w b B) (va : D.val A < b256) (vb : D.val B < b256) :
    Calls Safg.prog 110 #[.int .u8 23, .slice a A.length A.length, .slice b B.length B.length] w (NatRes w (D.val A ||| D.val B)) := by
  have la : A.length ≤ 32 := ha.len (by rw [← b256_pow]; exact va)
  have lb : B.length ≤ 32 := hb.len (by rw [← b256_pow]; exact vb)
  obtain ⟨z, HZ⟩ : ∃ z, Hid (D.val A ||| D.val B = z) := ⟨_, rfl⟩
  rw [HZ.out]
  have HV : Hid (∀ L : List Nat, L.length = 32 → (∀ j, j < 32 → L.getD j 0 = A.getD j 0 ||| B.getD j 0) → D.val L = z) := by
    intro L hL h
    rw [← HZ.out]
    exact val_bitwise (f := fun x y => x ||| y) or_digit hL ha.rd.dig hb.rd.dig h ((by rw [b256_pow2] at va vb ⊢; exact Nat.or_lt_two_pow va vb))
  clear va vb HZ
  go_enter Safg.func110, Safg.ntmps110
  go_upto_region 2 with (refine wpList_make_bytes _ rfl _ _ 98 rfl Safg.underlying98 .i64 .i64 _ _ 32 rfl rfl rfl rfl (by omega) ?_; intro w1 g hg o1 b1)
  go_upto_region 3 with fail
  go_loopw [14] (fun i wr => ∃ (k : Nat) (L : List Nat), k ≤ 32 ∧ i = .int .i64 k ∧ Own wr g L ∧ Only g w1 wr ∧ L.length = 32 ∧ D.Dig L ∧ Hid (∀ j, j < k → L.getD j 0 = A.getD j 0 ||| B.getD j 0)) (fun i _ => 32 - (intOf i).toNat)
  case atStart => exact ⟨0, _, by omega, rfl, o1, Only.refl _ _, by simp, D.Dig.replicate _, fun j hj => absurd hj (by omega)⟩
  case round =>
    obtain ⟨k, L, hk, rfl, ownr, onlyr, hL, hdL, HJ⟩ := hrel
    have br : Below w.heap.size w wr := b1.trans (onlyr.below hg)
    by_cases hlt : k < 32
    · have hcell := ownr.cell k (by omega)
      have hfr := ownr.free k
      have dA := ha.rd.dig.getD k
      have dB := hb.rd.dig.getD k
      have HA : Hid (A.length ≤ k → A.getD k 0 = 0) := fun h => getD_beyond h
      have HB : Hid (B.length ≤ k → B.getD k 0 = 0) := fun h => getD_beyond h
      have CA : k < A.length → ∃ b off, a = some ⟨b, off, none⟩ ∧ b < w.heap.size ∧ wr.cell? ⟨b, off + k, none⟩ = some (.int .u8 ((A.getD k 0 : Nat) : Int)) := fun h => by
        obtain ⟨b', off, e, h1, h2⟩ := ha.rd.cell k h
        exact ⟨b', off, e, h1, by rw [br.cell (p := ⟨b', off + k, none⟩) h1]; exact h2⟩
      have CB : k < B.length → ∃ b' off, b = some ⟨b', off, none⟩ ∧ b' < w.heap.size ∧ wr.cell? ⟨b', off + k, none⟩ = some (.int .u8 ((B.getD k 0 : Nat) : Int)) := fun h => by
        obtain ⟨b', off, e, h1, h2⟩ := hb.rd.cell k h
        exact ⟨b', off, e, h1, by rw [br.cell (p := ⟨b', off + k, none⟩) h1]; exact h2⟩
      have HG : Hid (∀ v : Nat, v = A.getD k 0 ||| B.getD k 0 → ∀ j, j < k + 1 → (L.set k v).getD j 0 = A.getD j 0 ||| B.getD j 0) := by
        intro v hv j hj
        rw [D.getD_set (by omega)]
        by_cases e : j = k
        · subst e; rw [if_pos rfl]; exact hv
        · rw [if_neg e]; exact HJ.out j (by omega)
      obtain ⟨x, HX⟩ : ∃ x, Hid (A.getD k 0 = x) := ⟨_, rfl⟩
      obtain ⟨y, HYY⟩ : ∃ x, Hid (B.getD k 0 = x) := ⟨_, rfl⟩
      rw [HX.out] at CA HA dA HG
      rw [HYY.out] at CB HB dB
      rw [HYY.out] at HG
      have HBT := u8_or_nat x y dA dB
      obtain ⟨v, HVV⟩ : ∃ v, Hid (x ||| y = v) := ⟨_, rfl⟩
      rw [HVV.out] at HBT
      have hv256 : v < 256 := by rw [← HVV.out]; exact Nat.or_lt_two_pow (n := 8) dA dB
      have HG2 : Hid (∀ j, j < k + 1 → (L.set k v).getD j 0 = A.getD j 0 ||| B.getD j 0) := HG.out v HVV.out.symm
      have hset := ownr.setI (k := k) (by omega) v (i := (v : Int)) rfl
      clear HG
      by_cases h1 : k < A.length
      · have t1 : decide ((k : Int) < (A.length : Int)) = true := decide_eq_true (by omega)
        obtain ⟨ab, aoff, rfl, hab, hac⟩ := CA h1
        clear CA HA
        by_cases h2 : k < B.length
        · have t2 : decide ((k : Int) < (B.length : Int)) = true := decide_eq_true (by omega)
          obtain ⟨bb, boff, rfl, hbb, hbc⟩ := CB h2
          clear CB HB
          go_wp2
          go_roundw
          case rel => exact ⟨k + 1, _, by omega, by go_num, hset, onlyr.setCell _ _, by simpa using hL, hdL.set _ hv256, HG2.out⟩
          case measure => simp [intOf]; omega
        · have t2 : decide ((k : Int) < (B.length : Int)) = false := decide_eq_false (by omega)
          obtain rfl := HB.out (by omega)
          rw [show ((0 : Nat) : Int) = 0 from rfl] at HBT
          clear CB HB
          go_wp2
          go_roundw
          case rel => exact ⟨k + 1, _, by omega, by go_num, hset, onlyr.setCell _ _, by simpa using hL, hdL.set _ hv256, HG2.out⟩
          case measure => simp [intOf]; omega
      · have t1 : decide ((k : Int) < (A.length : Int)) = false := decide_eq_false (by omega)
        obtain rfl := HA.out (by omega)
        rw [show ((0 : Nat) : Int) = 0 from rfl] at HBT
        clear CA HA
        by_cases h2 : k < B.length
        · have t2 : decide ((k : Int) < (B.length : Int)) = true := decide_eq_true (by omega)
          obtain ⟨bb, boff, rfl, hbb, hbc⟩ := CB h2
          clear CB HB
          go_wp2
          go_roundw
          case rel => exact ⟨k + 1, _, by omega, by go_num, hset, onlyr.setCell _ _, by simpa using hL, hdL.set _ hv256, HG2.out⟩
          case measure => simp [intOf]; omega
        · have t2 : decide ((k : Int) < (B.length : Int)) = false := decide_eq_false (by omega)
          obtain rfl := HB.out (by omega)
          rw [show ((0 : Nat) : Int) = 0 from rfl] at HBT
          clear CB HB
          go_wp2
          go_roundw
          case rel => exact ⟨k + 1, _, by omega, by go_num, hset, onlyr.setCell _ _, by simpa using hL, hdL.set _ hv256, HG2.out⟩
          case measure => simp [intOf]; omega
    · obtain rfl : k = 32 := by omega
      have hv := HV.out L hL HJ.out
      have hrd := ownr.rd hdL
      rw [hL] at hrd
      have HV2 : Hid (D.val (D.trimL L) = z) := by show _ = _; rw [D.trimL_val]; exact hv
      clear hv
      go_wp2_with (go_at_call 256; refine (norm_any _ _ _ _ L hrd (Nat.le_refl _) (by omega)).mono ?_; rintro e w2 ⟨a', rfl, hm, b3⟩)
      go_ret
      exact ⟨a', _, rfl, hm.nat, HV2.out, br.trans (b3.mono br.size)⟩

set_option maxRecDepth 100000 in
set_option maxHeartbeats 2000000 in
theorem bitwise_xor (w : World) (a b : Option Addr) (A B : List Nat) (ha : IsNat w a A) (hb : IsNat w b B) (va : D.val A < b256) (vb : D.val B < b256) :
    Calls Safg.prog 110 #[.int .u8 24, .slice a A.length A.length, .slice b B.length B.length] w (NatRes w (D.val A ^^^ D.val B)) := by
  have la : A.length ≤ 32 := ha.len (by rw [← b256_pow]; exact va)
  have lb : B.length ≤ 32 := hb.len (by rw [← b256_pow]; exact vb)
  obtain ⟨z, HZ⟩ : ∃ z, Hid (D.val A ^^^ D.val B = z) := ⟨_, rfl⟩
  rw [HZ.out]
  have HV : Hid (∀ L : List Nat, L.length = 32 → (∀ j, j < 32 → L.getD j 0 = A.getD j 0 ^^^ B.getD j 0) → D.val L = z) := by
    intro L hL h
    rw [← HZ.out]
    exact val_bitwise (f := fun x y => x ^^^ y) xor_digit hL ha.rd.dig hb.rd.dig h ((by rw [b256_pow2] at va vb ⊢; exact Nat.xor_lt_two_pow va vb))
  clear va vb HZ
  go_enter Safg.func110, Safg.ntmps110
  go_upto_region 2 with (refine wpList_make_bytes _ rfl _ _ 98 rfl Safg.underlying98 .i64 .i64 _ _ 32 rfl rfl rfl rfl (by omega) ?_; intro w1 g hg o1 b1)
  go_upto_region 3 with fail
  go_loopw [14] (fun i wr => ∃ (k : Nat) (L : List Nat), k ≤ 32 ∧ i = .int .i64 k ∧ Own wr g L ∧ Only g w1 wr ∧ L.length = 32 ∧ D.Dig L ∧ Hid (∀ j, j < k → L.getD j 0 = A.getD j 0 ^^^ B.getD j 0)) (fun i _ => 32 - (intOf i).toNat)
  case atStart => exact ⟨0, _, by omega, rfl, o1, Only.refl _ _, by simp, D.Dig.replicate _, fun j hj => absurd hj (by omega)⟩
  case round =>
    obtain ⟨k, L, hk, rfl, ownr, onlyr, hL, hdL, HJ⟩ := hrel
    have br : Below w.heap.size w wr := b1.trans (onlyr.below hg)
    by_cases hlt : k < 32
    · have hcell := ownr.cell k (by omega)
      have hfr := ownr.free k
      have dA := ha.rd.dig.getD k
      have dB := hb.rd.dig.getD k
      have HA : Hid (A.length ≤ k → A.getD k 0 = 0) := fun h => getD_beyond h
      have HB : Hid (B.length ≤ k → B.getD k 0 = 0) := fun h => getD_beyond h
      have CA : k < A.length → ∃ b off, a = some ⟨b, off, none⟩ ∧ b < w.heap.size ∧ wr.cell? ⟨b, off + k, none⟩ = some (.int .u8 ((A.getD k 0 : Nat) : Int)) := fun h => by
        obtain ⟨b', off, e, h1, h2⟩ := ha.rd.cell k h
        exact ⟨b', off, e, h1, by rw [br.cell (p := ⟨b', off + k, none⟩) h1]; exact h2⟩
      have CB : k < B.length → ∃ b' off, b = some ⟨b', off, none⟩ ∧ b' < w.heap.size ∧ wr.cell? ⟨b', off + k, none⟩ = some (.int .u8 ((B.getD k 0 : Nat) : Int)) := fun h => by
        obtain ⟨b', off, e, h1, h2⟩ := hb.rd.cell k h
        exact ⟨b', off, e, h1, by rw [br.cell (p := ⟨b', off + k, none⟩) h1]; exact h2⟩
      have HG : Hid (∀ v : Nat, v = A.getD k 0 ^^^ B.getD k 0 → ∀ j, j < k + 1 → (L.set k v).getD j 0 = A.getD j 0 ^^^ B.getD j 0) := by
        intro v hv j hj
        rw [D.getD_set (by omega)]
        by_cases e : j = k
        · subst e; rw [if_pos rfl]; exact hv
        · rw [if_neg e]; exact HJ.out j (by omega)
      obtain ⟨x, HX⟩ : ∃ x, Hid (A.getD k 0 = x) := ⟨_, rfl⟩
      obtain ⟨y, HYY⟩ : ∃ x, Hid (B.getD k 0 = x) := ⟨_, rfl⟩
      rw [HX.out] at CA HA dA HG
      rw [HYY.out] at CB HB dB
      rw [HYY.out] at HG
      have HBT := u8_xor_nat x y dA dB
      obtain ⟨v, HVV⟩ : ∃ v, Hid (x ^^^ y = v) := ⟨_, rfl⟩
      rw [HVV.out] at HBT
      have hv256 : v < 256 := by rw [← HVV.out]; exact Nat.xor_lt_two_pow (n := 8) dA dB
      have HG2 : Hid (∀ j, j < k + 1 → (L.set k v).getD j 0 = A.getD j 0 ^^^ B.getD j 0) := HG.out v HVV.out.symm
      have hset := ownr.setI (k := k) (by omega) v (i := (v : Int)) rfl
      clear HG
      by_cases h1 : k < A.length
      · have t1 : decide ((k : Int) < (A.length : Int)) = true := decide_eq_true (by omega)
        obtain ⟨ab, aoff, rfl, hab, hac⟩ := CA h1
        clear CA HA
        by_cases h2 : k < B.length
        · have t2 : decide ((k : Int) < (B.length : Int)) = true := decide_eq_true (by omega)
          obtain ⟨bb, boff, rfl, hbb, hbc⟩ := CB h2
          clear CB HB
          go_wp2
          go_roundw
          case rel => exact ⟨k + 1, _, by omega, by go_num, hset, onlyr.setCell _ _, by simpa using hL, hdL.set _ hv256, HG2.out⟩
          case measure => simp [intOf]; omega
        · have t2 : decide ((k : Int) < (B.length : Int)) = false := decide_eq_false (by omega)
          obtain rfl := HB.out (by omega)
          rw [show ((0 : Nat) : Int) = 0 from rfl] at HBT
          clear CB HB
          go_wp2
          go_roundw
          case rel => exact ⟨k + 1, _, by omega, by go_num, hset, onlyr.setCell _ _, by simpa using hL, hdL.set _ hv256, HG2.out⟩
          case measure => simp [intOf]; omega
      · have t1 : decide ((k : Int) < (A.length : Int)) = false := decide_eq_false (by omega)
        obtain rfl := HA.out (by omega)
        rw [show ((0 : Nat) : Int) = 0 from rfl] at HBT
        clear CA HA
        by_cases h2 : k < B.length
        · have t2 : decide ((k : Int) < (B.length : Int)) = true := decide_eq_true (by omega)
          obtain ⟨bb, boff, rfl, hbb, hbc⟩ := CB h2
          clear CB HB
          go_wp2
          go_roundw
          case rel => exact ⟨k + 1, _, by omega, by go_num, hset, onlyr.setCell _ _, by simpa using hL, hdL.set _ hv256, HG2.out⟩
          case measure => simp [intOf]; omega
        · have t2 : decide ((k : Int) < (B.length : Int)) = false := decide_eq_false (by omega)
          obtain rfl := HB.out (by omega)
          rw [show ((0 : Nat) : Int) = 0 from rfl] at HBT
          clear CB HB
          go_wp2
          go_roundw
          case rel => exact ⟨k + 1, _, by omega, by go_num, hset, onlyr.setCell _ _, by simpa using hL, hdL.set _ hv256, HG2.out⟩
          case measure => simp [intOf]; omega
    · obtain rfl : k = 32 := by omega
      have hv := HV.out L hL HJ.out
      have hrd := ownr.rd hdL
      rw [hL] at hrd
      have HV2 : Hid (D.val (D.trimL L) = z) := by show _ = _; rw [D.trimL_val]; exact hv
      clear hv
      go_wp2_with (go_at_call 256; refine (norm_any _ _ _ _ L hrd (Nat.le_refl _) (by omega)).mono ?_; rintro e w2 ⟨a', rfl, hm, b3⟩)
      go_ret
      exact ⟨a', _, rfl, hm.nat, HV2.out, br.trans (b3.mono br.size)⟩

set_option maxRecDepth 100000 in
set_option maxHeartbeats 2000000 in
theorem bitwise_not (w : World) (a b : Option Addr) (A B : List Nat) (ha : IsNat w a A) (hb : IsNat w b B) (va : D.val A < b256) (vb : D.val B < b256) :
    Calls Safg.prog 110 #[.int .u8 25, .slice a A.length A.length, .slice b B.length B.length] w (NatRes w (b256 - 1 - D.val A)) := by
  have la : A.length ≤ 32 := ha.len (by rw [← b256_pow]; exact va)
  have lb : B.length ≤ 32 := hb.len (by rw [← b256_pow]; exact vb)
  obtain ⟨z, HZ⟩ : ∃ z, Hid (b256 - 1 - D.val A = z) := ⟨_, rfl⟩
  rw [HZ.out]
  have HV : Hid (∀ L : List Nat, L.length = 32 → (∀ j, j < 32 → L.getD j 0 = 255 - A.getD j 0) → D.val L = z) := by
    intro L hL h
    rw [← HZ.out]
    exact val_not hL la h ha.rd.dig
  clear va vb HZ
  go_enter Safg.func110, Safg.ntmps110
  go_upto_region 2 with (refine wpList_make_bytes _ rfl _ _ 98 rfl Safg.underlying98 .i64 .i64 _ _ 32 rfl rfl rfl rfl (by omega) ?_; intro w1 g hg o1 b1)
  go_upto_region 3 with fail
  go_loopw [14] (fun i wr => ∃ (k : Nat) (L : List Nat), k ≤ 32 ∧ i = .int .i64 k ∧ Own wr g L ∧ Only g w1 wr ∧ L.length = 32 ∧ D.Dig L ∧ Hid (∀ j, j < k → L.getD j 0 = 255 - A.getD j 0)) (fun i _ => 32 - (intOf i).toNat)
  case atStart => exact ⟨0, _, by omega, rfl, o1, Only.refl _ _, by simp, D.Dig.replicate _, fun j hj => absurd hj (by omega)⟩
  case round =>
    obtain ⟨k, L, hk, rfl, ownr, onlyr, hL, hdL, HJ⟩ := hrel
    have br : Below w.heap.size w wr := b1.trans (onlyr.below hg)
    by_cases hlt : k < 32
    · have hcell := ownr.cell k (by omega)
      have hfr := ownr.free k
      have dA := ha.rd.dig.getD k
      have dB := hb.rd.dig.getD k
      have HA : Hid (A.length ≤ k → A.getD k 0 = 0) := fun h => getD_beyond h
      have HB : Hid (B.length ≤ k → B.getD k 0 = 0) := fun h => getD_beyond h
      have CA : k < A.length → ∃ b off, a = some ⟨b, off, none⟩ ∧ b < w.heap.size ∧ wr.cell? ⟨b, off + k, none⟩ = some (.int .u8 ((A.getD k 0 : Nat) : Int)) := fun h => by
        obtain ⟨b', off, e, h1, h2⟩ := ha.rd.cell k h
        exact ⟨b', off, e, h1, by rw [br.cell (p := ⟨b', off + k, none⟩) h1]; exact h2⟩
      have CB : k < B.length → ∃ b' off, b = some ⟨b', off, none⟩ ∧ b' < w.heap.size ∧ wr.cell? ⟨b', off + k, none⟩ = some (.int .u8 ((B.getD k 0 : Nat) : Int)) := fun h => by
        obtain ⟨b', off, e, h1, h2⟩ := hb.rd.cell k h
        exact ⟨b', off, e, h1, by rw [br.cell (p := ⟨b', off + k, none⟩) h1]; exact h2⟩
      have HG : Hid (∀ v : Nat, v = 255 - A.getD k 0 → ∀ j, j < k + 1 → (L.set k v).getD j 0 = 255 - A.getD j 0) := by
        intro v hv j hj
        rw [D.getD_set (by omega)]
        by_cases e : j = k
        · subst e; rw [if_pos rfl]; exact hv
        · rw [if_neg e]; exact HJ.out j (by omega)
      obtain ⟨x, HX⟩ : ∃ x, Hid (A.getD k 0 = x) := ⟨_, rfl⟩
      obtain ⟨y, HYY⟩ : ∃ x, Hid (B.getD k 0 = x) := ⟨_, rfl⟩
      rw [HX.out] at CA HA dA HG
      rw [HYY.out] at CB HB dB
      skip
      have HBT := u8_not x dA
      obtain ⟨v, HVV⟩ : ∃ v, Hid (255 - x = v) := ⟨_, rfl⟩
      rw [HVV.out] at HBT
      have hv256 : v < 256 := by rw [← HVV.out]; omega
      have HG2 : Hid (∀ j, j < k + 1 → (L.set k v).getD j 0 = 255 - A.getD j 0) := HG.out v HVV.out.symm
      have hset := ownr.setI (k := k) (by omega) v (i := (v : Int)) rfl
      clear HG
      by_cases h1 : k < A.length
      · have t1 : decide ((k : Int) < (A.length : Int)) = true := decide_eq_true (by omega)
        obtain ⟨ab, aoff, rfl, hab, hac⟩ := CA h1
        clear CA HA
        by_cases h2 : k < B.length
        · have t2 : decide ((k : Int) < (B.length : Int)) = true := decide_eq_true (by omega)
          obtain ⟨bb, boff, rfl, hbb, hbc⟩ := CB h2
          clear CB HB
          go_wp2
          go_roundw
          case rel => exact ⟨k + 1, _, by omega, by go_num, hset, onlyr.setCell _ _, by simpa using hL, hdL.set _ hv256, HG2.out⟩
          case measure => simp [intOf]; omega
        · have t2 : decide ((k : Int) < (B.length : Int)) = false := decide_eq_false (by omega)
          obtain rfl := HB.out (by omega)
          skip
          clear CB HB
          go_wp2
          go_roundw
          case rel => exact ⟨k + 1, _, by omega, by go_num, hset, onlyr.setCell _ _, by simpa using hL, hdL.set _ hv256, HG2.out⟩
          case measure => simp [intOf]; omega
      · have t1 : decide ((k : Int) < (A.length : Int)) = false := decide_eq_false (by omega)
        obtain rfl := HA.out (by omega)
        rw [show ((0 : Nat) : Int) = 0 from rfl] at HBT
        clear CA HA
        by_cases h2 : k < B.length
        · have t2 : decide ((k : Int) < (B.length : Int)) = true := decide_eq_true (by omega)
          obtain ⟨bb, boff, rfl, hbb, hbc⟩ := CB h2
          clear CB HB
          go_wp2
          go_roundw
          case rel => exact ⟨k + 1, _, by omega, by go_num, hset, onlyr.setCell _ _, by simpa using hL, hdL.set _ hv256, HG2.out⟩
          case measure => simp [intOf]; omega
        · have t2 : decide ((k : Int) < (B.length : Int)) = false := decide_eq_false (by omega)
          obtain rfl := HB.out (by omega)
          skip
          clear CB HB
          go_wp2
          go_roundw
          case rel => exact ⟨k + 1, _, by omega, by go_num, hset, onlyr.setCell _ _, by simpa using hL, hdL.set _ hv256, HG2.out⟩
          case measure => simp [intOf]; omega
    · obtain rfl : k = 32 := by omega
      have hv := HV.out L hL HJ.out
      have hrd := ownr.rd hdL
      rw [hL] at hrd
      have HV2 : Hid (D.val (D.trimL L) = z) := by show _ = _; rw [D.trimL_val]; exact hv
      clear hv
      go_wp2_with (go_at_call 256; refine (norm_any _ _ _ _ L hrd (Nat.le_refl _) (by omega)).mono ?_; rintro e w2 ⟨a', rfl, hm, b3⟩)
      go_ret
      exact ⟨a', _, rfl, hm.nat, HV2.out, br.trans (b3.mono br.size)⟩

end Go.Proofs.YgcsafGreat
