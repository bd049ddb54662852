/-
  ALGORITHM D, plain: the whole division.
-/
import Derived.Test.YgcsafGreatMid2
namespace Go.Proofs.YgcsafGreat
open Go.RowKit
set_option linter.unusedVariables false
set_option linter.unusedSimpArgs false

theorem wv_split (U : List Nat) (o a : Nat) : ∀ b, wv U o (a + b) = wv U o a + b64 ^ a * wv U (o + a) b
  | 0 => by simp [wv]
  | b + 1 => by
    rw [← Nat.add_assoc, wv_succ, wv_split U o a b, wv_succ, Nat.mul_add, Nat.pow_add, Nat.mul_assoc, Nat.add_assoc, show o + (a + b) = o + a + b by omega]
theorem wv_ge {U : List Nat} {o i m : Nat} (h : i < m) : b64 ^ i * U.getD (o + i) 0 ≤ wv U o m := by
  rw [show m = (i + 1) + (m - (i + 1)) by omega, wv_split, wv_succ]
  exact Nat.le_trans (Nat.le_add_left _ _) (Nat.le_add_right _ _)
theorem wv_high {U : List Nat} {n m : Nat} (h : wv U 0 m < b64 ^ n) (i : Nat) (h1 : n ≤ i) (h2 : i < m) : U.getD i 0 = 0 := by
  have h3 := wv_ge (U := U) (o := 0) h2
  rw [Nat.zero_add] at h3
  have h4 : b64 ^ n ≤ b64 ^ i := Nat.pow_le_pow_right b64_pos h1
  rcases Nat.eq_zero_or_pos (U.getD i 0) with e | e
  · exact e
  · have : b64 ^ i * 1 ≤ b64 ^ i * U.getD i 0 := Nat.mul_le_mul_left _ e
    rw [Nat.mul_one] at this
    omega
theorem wv_zeros {U : List Nat} {o : Nat} : ∀ {m : Nat}, (∀ i, i < m → U.getD (o + i) 0 = 0) → wv U o m = 0
  | 0, _ => rfl
  | m + 1, h => by rw [wv_succ, wv_zeros (fun i hi => h i (by omega)), h m (by omega), Nat.mul_zero]
theorem wv_drop {U : List Nat} {n m : Nat} (hn : n ≤ m) (h : ∀ i, n ≤ i → i < m → U.getD i 0 = 0) : wv U 0 m = wv U 0 n := by
  rw [show m = n + (m - n) by omega, wv_split, Nat.zero_add, wv_zeros (fun i hi => h (n + i) (by omega) (by omega)), Nat.mul_zero, Nat.add_zero]

theorem Wd4.val_wv (a : Wd4) : a.val = wv a.l 0 4 := by
  rw [wv_low, wv_low, wv_low, wv_low]
  simp [Wd4.val, Wd4.l, wv]
theorem list4 {L : List Nat} (h : L.length = 4) : ∃ v : Wd4, v.l = L := by
  rcases L with _ | ⟨a, _ | ⟨b, _ | ⟨c, _ | ⟨d, _ | ⟨e, t⟩⟩⟩⟩⟩ <;> simp at h
  exact ⟨⟨a, b, c, d⟩, rfl⟩
theorem Lim.ok {v : Wd4} (h : Lim v.l) : v.Ok := by
  refine ⟨h _ ?_, h _ ?_, h _ ?_, h _ ?_⟩ <;> simp [Wd4.l]

/-- The window replaced. -/
theorem wv_window {U U' : List Nat} {p m N : Nat} (h : Within U U' p m) (hN : p + m ≤ N) : wv U 0 N + b64 ^ p * wv U' p m = wv U' 0 N + b64 ^ p * wv U p m := by
  have e : ∀ L : List Nat, wv L 0 N = wv L 0 p + b64 ^ p * wv L p m + b64 ^ (p + m) * wv L (p + m) (N - (p + m)) := fun L => by
    conv => lhs; rw [show N = (p + m) + (N - (p + m)) by omega]
    rw [wv_split, wv_split, Nat.zero_add, Nat.zero_add]
  rw [e U, e U']
  have e1 : wv U' 0 p = wv U 0 p := wv_congr fun j hj => by rw [Nat.zero_add]; exact h.2 j (by omega)
  have e2 : wv U' (p + m) (N - (p + m)) = wv U (p + m) (N - (p + m)) := wv_congr fun j hj => h.2 _ (by omega)
  rw [e1, e2]
  omega
theorem wv_set_add {K : List Nat} {p m : Nat} (hp : p < m) (hl : p < K.length) (h0 : K.getD p 0 = 0) (d : Nat) : wv (K.set p d) 0 m = wv K 0 m + b64 ^ p * d := by
  have hw : Within K (K.set p d) p 1 := ⟨List.length_set .., fun j hj => by rw [getD_setU hl, if_neg (by omega)]⟩
  have := wv_window hw (N := m) (by omega)
  have e1 : wv (K.set p d) p 1 = d := by simp [wv, hl]
  have e2 : wv K p 1 = 0 := by
    have : wv K p 1 = 0 + b64 ^ 0 * K.getD (p + 0) 0 := rfl
    rw [this, Nat.add_zero, h0]; simp
  rw [e1, e2, Nat.mul_zero, Nat.add_zero] at this
  exact this.symm

/-- The divisor, brought up. -/
theorem norm_div {b : Wd4} {L : List Nat} {n s c : Nat} (hb : b.Ok) (lL : Lim L) (hl : IsLimbs b.l n) (hn : 1 ≤ n) (hs : 64 - Lib.bitLen (b.l.getD (n - 1) 0) = s) (e : wv L 0 4 + b64 ^ 4 * c = wv b.l 0 4 * 2 ^ s) (hL : L.length = 4) :
    wv L 0 4 = b.val * 2 ^ s ∧ IsLimbs L n ∧ 9223372036854775808 ≤ L.getD (n - 1) 0 ∧ wv L 0 n = b.val * 2 ^ s ∧ b64 ^ (n - 1) * 2 ^ s ≤ wv L 0 n := by
  have hn4 : n ≤ 4 := hl.le
  have hlim := Wd4.lim hb
  have htop := hl.top hn
  have hy := hlim.getD (n - 1)
  obtain ⟨k1, k2, k3⟩ := norm_shift hy htop hs
  have hbn : wv b.l 0 4 = wv b.l 0 n := wv_drop hn4 fun i h1 _ => hl.zero i h1
  have hbs : wv b.l 0 n = wv b.l 0 (n - 1) + b64 ^ (n - 1) * b.l.getD (n - 1) 0 := by
    conv => lhs; rw [show n = (n - 1) + 1 by omega]
    rw [wv_succ, Nat.zero_add]
  have hlow := wv_lt hlim 0 (n - 1)
  have pos : 0 < 2 ^ s := Nat.pow_pos (by omega)
  generalize b.l.getD (n - 1) 0 = y at *
  have hpq : 2 ^ (64 - s) * 2 ^ s = b64 := by rw [← Nat.pow_add, show 64 - s + s = 64 by omega, b64_eq]
  have hy2 : y + 1 ≤ 2 ^ (64 - s) := by
    apply Nat.lt_of_mul_lt_mul_right (a := 2 ^ s)
    rw [hpq, b64_eq]; exact k2
  have hpn : b64 ^ n = b64 ^ (n - 1) * b64 := by
    conv => lhs; rw [show n = (n - 1) + 1 by omega]
    exact Nat.pow_succ ..
  have hup : wv b.l 0 4 * 2 ^ s < b64 ^ n := by
    have hr : b64 ^ n = b64 ^ (n - 1) * 2 ^ (64 - s) * 2 ^ s := by rw [Nat.mul_assoc, hpq]; exact hpn
    rw [hbn, hbs, hr]
    apply Nat.mul_lt_mul_of_pos_right _ pos
    have : b64 ^ (n - 1) * (y + 1) ≤ b64 ^ (n - 1) * 2 ^ (64 - s) := Nat.mul_le_mul_left _ hy2
    rw [Nat.mul_add, Nat.mul_one] at this
    omega
  have h4 : b64 ^ n ≤ b64 ^ 4 := Nat.pow_le_pow_right b64_pos hn4
  have hc : c = 0 := by
    rcases Nat.eq_zero_or_pos c with h | h
    · exact h
    · have : b64 ^ 4 * 1 ≤ b64 ^ 4 * c := Nat.mul_le_mul_left _ h
      rw [Nat.mul_one] at this
      omega
  rw [hc, Nat.mul_zero, Nat.add_zero] at e
  rw [← e] at hup
  have hz : ∀ i, n ≤ i → L.getD i 0 = 0 := fun i hi => by
    by_cases h : i < 4
    · exact wv_high hup i hi h
    · rw [List.getD_eq_getElem?_getD, List.getElem?_eq_none (by omega)]; rfl
  have hLn : wv L 0 4 = wv L 0 n := wv_drop hn4 fun i h1 _ => hz i h1
  have hge : b64 ^ (n - 1) * (y * 2 ^ s) ≤ wv L 0 n := by
    rw [← hLn, e, hbn, hbs, Nat.add_mul, Nat.mul_assoc]
    exact Nat.le_add_left _ _
  have hLs : wv L 0 n = wv L 0 (n - 1) + b64 ^ (n - 1) * L.getD (n - 1) 0 := by
    conv => lhs; rw [show n = (n - 1) + 1 by omega]
    rw [wv_succ, Nat.zero_add]
  have hLl := wv_lt lL 0 (n - 1)
  have ht : 9223372036854775808 ≤ L.getD (n - 1) 0 := by
    apply Nat.le_of_lt_succ
    apply Nat.lt_of_le_of_lt k3
    apply Nat.lt_of_mul_lt_mul_left (a := b64 ^ (n - 1))
    rw [Nat.mul_succ]
    omega
  refine ⟨by rw [e, Wd4.val_wv], ⟨by rw [hL]; exact hn4, hz, fun _ h => by rw [h] at ht; omega⟩, ht, by rw [← hLn, e, Wd4.val_wv], ?_⟩
  refine Nat.le_trans (Nat.mul_le_mul_left _ ?_) hge
  have : 1 * 2 ^ s ≤ y * 2 ^ s := Nat.mul_le_mul_right _ (by omega)
  omega

/-- The main loop's invariant ahead of the round at place j - 1. -/
structure DivInv (X : Nat) (V : List Nat) (n s j : Nat) (U K : List Nat) : Prop where
  u9 : U.length = 9
  k8 : K.length = 8
  limU : Lim U
  limK : Lim K
  zero : ∀ i, j + n ≤ i → U.getD i 0 = 0
  low : ∀ i, i < j → K.getD i 0 = 0
  lt : wv U j n < wv V 0 n
  sum : X * 2 ^ s = wv U 0 9 + wv V 0 n * wv K 0 8

theorem DivInv.start {X : Nat} {V U K : List Nat} {n s top : Nat} (hn : n ≤ top) (h8 : top ≤ 8) (hs : s < 64) (hX : X < b64 ^ top) (hU : wv U 0 9 = X * 2 ^ s) (u9 : U.length = 9) (k8 : K.length = 8) (lU : Lim U) (hK : ∀ i, K.getD i 0 = 0) (lK : Lim K) (hn1 : 1 ≤ n) (hV : b64 ^ (n - 1) * 2 ^ s ≤ wv V 0 n) : DivInv X V n s (top - n + 1) U K := by
  have p64 : 2 ^ s ≤ b64 := by
    rw [b64_eq, show (18446744073709551616 : Nat) = 2 ^ 64 from rfl]; exact Nat.pow_le_pow_right (by omega) (by omega)
  have pos : 0 < 2 ^ s := Nat.pow_pos (by omega)
  have hlt : wv U 0 9 < b64 ^ (top + 1) := by
    rw [hU, Nat.pow_succ]
    exact Nat.lt_of_lt_of_le (Nat.mul_lt_mul_of_pos_right hX pos) (Nat.mul_le_mul_left _ p64)
  have hz : ∀ i, top + 1 ≤ i → U.getD i 0 = 0 := fun i hi => by
    by_cases h : i < 9
    · exact wv_high hlt i hi h
    · rw [List.getD_eq_getElem?_getD, List.getElem?_eq_none (by omega)]; rfl
  refine ⟨u9, k8, lU, lK, fun i hi => hz i (by omega), fun i _ => hK i, ?_, ?_⟩
  · have e1 : wv U 0 9 = wv U 0 (top + 1) := wv_drop (by omega) fun i h _ => hz i h
    have e2 : wv U 0 (top + 1) = wv U 0 (top - n + 1) + b64 ^ (top - n + 1) * wv U (top - n + 1) n := by
      conv => lhs; rw [show top + 1 = (top - n + 1) + n by omega]
      rw [wv_split, Nat.zero_add]
    apply Nat.lt_of_lt_of_le _ hV
    apply Nat.lt_of_mul_lt_mul_left (a := b64 ^ (top - n + 1))
    have e3 : b64 ^ (top - n + 1) * (b64 ^ (n - 1) * 2 ^ s) = b64 ^ top * 2 ^ s := by
      rw [← Nat.mul_assoc, ← Nat.pow_add, show top - n + 1 + (n - 1) = top by omega]
    rw [e3]
    have e4 : X * 2 ^ s < b64 ^ top * 2 ^ s := Nat.mul_lt_mul_of_pos_right hX pos
    omega
  · rw [hU, wv_zeros (U := K) (fun i _ => by rw [Nat.zero_add]; exact hK i), Nat.mul_zero, Nat.add_zero]

theorem DivInv.mid {X : Nat} {V U K : List Nat} {n s j : Nat} (h : DivInv X V n s (j + 1) U K) (ht : 9223372036854775808 ≤ V.getD (n - 1) 0) : Mid U V j n := ⟨ht, h.lt⟩

theorem DivInv.step {X : Nat} {V U K U' : List Nat} {n s j : Nat} (h : DivInv X V n s (j + 1) U K) (hn1 : 1 ≤ n) (hj : j + n ≤ 8) (lV : Lim V) (hw : Within U U' j (n + 1)) (lU' : Lim U') (hm : wv U' j (n + 1) = wv U j (n + 1) % wv V 0 n) (hq : wv U j (n + 1) / wv V 0 n < 18446744073709551616) :
    DivInv X V n s j U' (K.set j (wv U j (n + 1) / wv V 0 n)) := by
  have hp : 0 < wv V 0 n := Nat.lt_of_le_of_lt (Nat.zero_le _) h.lt
  have hVlt := wv_lt lV 0 n
  have hml := Nat.mod_lt (wv U j (n + 1)) hp
  rw [← hm] at hml
  have hdm := Nat.div_add_mod (wv U j (n + 1)) (wv V 0 n)
  rw [← hm] at hdm
  have htopz : U'.getD (j + n) 0 = 0 := by
    rcases Nat.eq_zero_or_pos (U'.getD (j + n) 0) with e | e
    · exact e
    · have h1 := wv_ge (U := U') (o := j) (i := n) (m := n + 1) (by omega)
      have h2 : b64 ^ n * 1 ≤ b64 ^ n * U'.getD (j + n) 0 := Nat.mul_le_mul_left _ e
      omega
  have hwin := wv_window hw (N := 9) (by omega)
  have hset := wv_set_add (K := K) (p := j) (m := 8) (by omega) (by rw [h.k8]; omega) (h.low j (by omega)) (wv U j (n + 1) / wv V 0 n)
  refine ⟨by rw [hw.1]; exact h.u9, by rw [List.length_set]; exact h.k8, lU', h.limK.set _ hq, fun i hi => ?_, fun i hi => ?_, ?_, ?_⟩
  · by_cases e : i = j + n
    · rw [e]; exact htopz
    · rw [hw.2 i (by omega)]; exact h.zero i (by omega)
  · rw [getD_setU (by rw [h.k8]; omega), if_neg (by omega)]; exact h.low i (by omega)
  · rw [wv_succ, htopz, Nat.mul_zero, Nat.add_zero] at hml; exact hml
  · rw [h.sum, hset]
    generalize wv U j (n + 1) / wv V 0 n = q at *
    have e1 : b64 ^ j * wv U j (n + 1) = b64 ^ j * (wv V 0 n * q) + b64 ^ j * wv U' j (n + 1) := by rw [← Nat.mul_add, hdm]
    rw [Nat.mul_add, Nat.mul_left_comm (wv V 0 n)]
    omega

theorem DivInv.done {X B : Nat} {V U K : List Nat} {n s : Nat} (h : DivInv X V n s 0 U K) (hn : n ≤ 4) (hV : wv V 0 n = B * 2 ^ s) : wv U 0 4 / 2 ^ s < B ∧ X = wv K 0 8 * B + wv U 0 4 / 2 ^ s := by
  have pos : 0 < 2 ^ s := Nat.pow_pos (by omega)
  have e1 : wv U 0 9 = wv U 0 n := wv_drop (by omega) fun i h1 _ => h.zero i (by omega)
  have e2 : wv U 0 4 = wv U 0 n := wv_drop hn fun i h1 _ => h.zero i (by omega)
  have hs := h.sum
  have hl := h.lt
  rw [e1, ← e2, hV] at hs
  rw [← e2, hV] at hl
  have e3 : wv U 0 4 = (X - wv K 0 8 * B) * 2 ^ s := by
    rw [Nat.sub_mul, hs, Nat.mul_comm (wv K 0 8), Nat.mul_right_comm]
    omega
  have hle : wv K 0 8 * B ≤ X := by
    refine Nat.le_of_mul_le_mul_right (c := 2 ^ s) ?_ pos
    rw [hs, Nat.mul_comm (wv K 0 8), Nat.mul_right_comm]
    omega
  have e4 : wv U 0 4 / 2 ^ s = X - wv K 0 8 * B := by rw [e3]; exact Nat.mul_div_cancel _ pos
  rw [e4]
  rw [e3] at hl
  exact ⟨Nat.lt_of_mul_lt_mul_right hl, by omega⟩
end Go.Proofs.YgcsafGreat
