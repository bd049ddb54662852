/-
  'yp.negated' (100), 'yp.isNegative' (104), 'yp.withSign' (103), 'yp.magnitude' (102), 'yp.signedBelow' (109), 'yp.truth' (107).
-/
import Derived.Test.YgcsafGreatYp1
namespace Go.Proofs.YgcsafGreat
open Go.RowKit
set_option linter.unusedVariables false
set_option linter.unusedSimpArgs false

theorem b256_pow : b256 = 256 ^ 32 := by rfl
theorem b256_pow2 : b256 = 2 ^ 256 := by rfl
def half : Nat := 2 ^ 255
theorem half_two : b256 = half * 2 := by rfl
theorem half_pos : 0 < half := Nat.pow_pos (by omega)
def negW (x : Nat) : Nat := (b256 - x) % b256
def sgnW (x : Nat) (n : Bool) : Nat := if n then negW x else x
def isNegW (x : Nat) : Bool := decide (half ≤ x)
def magW (x : Nat) : Nat := sgnW x (isNegW x)
theorem negW_lt (x : Nat) : negW x < b256 := Nat.mod_lt _ b256_pos
theorem sgnW_lt {x : Nat} (h : x < b256) (n : Bool) : sgnW x n < b256 := by
  unfold sgnW; split
  · exact negW_lt _
  · exact h
theorem magW_lt {x : Nat} (h : x < b256) : magW x < b256 := sgnW_lt h _
theorem top_bit {x : Nat} (h : x < b256) : decide (x / 2 ^ 255 % 2 = 1) = isNegW x := by
  unfold isNegW
  congr 1
  apply propext
  have e : x / 2 ^ 255 = x / half := rfl
  rw [e]
  have h2 := half_two
  have hp := half_pos
  rw [h2] at h
  have h3 : x / half < 2 := (Nat.div_lt_iff_lt_mul hp).2 (by rw [Nat.mul_comm] at h; exact h)
  have h4 : half ≤ x ↔ 1 ≤ x / half := by
    rw [Nat.le_div_iff_mul_le hp, Nat.one_mul]
  omega

/-- What a function of 'yp' answers: a natural that it has made. -/
def NatRes (w : World) (x : Nat) (e : Ending) (w' : World) : Prop :=
  ∃ a' l', e = .returned (.slice a' l'.length l'.length) ∧ IsNat w' a' l' ∧ D.val l' = x ∧ Below w.heap.size w w'
theorem Made.isNat {B : Nat} {w : World} {a : Option Addr} {l : List Nat} (h : Made B w a l) : IsNat w a l := h.nat

set_option maxRecDepth 100000 in
set_option maxHeartbeats 1000000 in
theorem wrapped_nat (w : World) (a : Option Addr) (l : List Nat) (h : IsNat w a l) (hm : l.length ≤ 281474976710656) :
    Calls Safg.prog 97 #[.slice a l.length l.length] w (NatRes w (D.val l % b256)) :=
  (wrapped_any w a l h.rd hm).mono fun e w' ⟨a', l', he, hmd, hv, hb⟩ => ⟨a', l', he, hmd.nat, by rw [b256_pow]; exact hv, hb⟩

set_option maxRecDepth 100000 in
set_option maxHeartbeats 1000000 in
theorem negated_any (w : World) (a : Option Addr) (l : List Nat) (h : IsNat w a l) (hv : D.val l < b256) :
    Calls Safg.prog 100 #[.slice a l.length l.length] w (NatRes w (negW (D.val l))) := by
  have hlen : l.length ≤ 32 := h.len (by rw [← b256_pow]; exact hv)
  have HV : Hid (D.val l < b256) := hv
  clear hv
  go_enter Safg.func100, Safg.ntmps100
  go_upto_region 2 with (first | (go_at_call 259; refine (pow2_any _ 256 (by omega)).mono ?_; rintro e w1 ⟨a1, l1, rfl, m1, v1, b1⟩; have hl1 : l1.length ≤ 33 := m1.nat.len (by rw [v1, ← b256_pow2, b256_pow]; exact Nat.pow_lt_pow_right (by omega) (by omega)); have V1 : Hid (D.val l1 = b256) := v1; clear v1) | (go_at_call 258; refine (sub_any _ _ _ _ _ _ _ l1 l m1.nat.rd (h.rd.below b1) (Nat.le_refl _) (Nat.le_refl _) (by omega) (by omega)).mono ?_; rintro e w2 ⟨b2, ⟨hlt, _⟩ | ⟨hle, a2, l2, rfl, m2, v2, hl2⟩⟩; (exact absurd hlt (by rw [V1.out]; have := HV.out; omega))))
  have V2 : Hid (D.val l2 = b256 - D.val l) := by show _ = _; rw [v2, V1.out]
  clear v2 hle
  go_wp2_with (go_at_call 97; refine (wrapped_nat _ a2 l2 m2.nat (by omega)).mono ?_; rintro e w3 ⟨a3, l3, rfl, n3, v3, b3⟩)
  go_ret
  refine ⟨a3, l3, rfl, n3, ?_, ?_⟩
  · rw [v3, V2.out]; rfl
  · exact b1.trans ((b2.mono b1.size).trans (b3.mono (Nat.le_trans b1.size b2.size)))

set_option maxRecDepth 100000 in
set_option maxHeartbeats 1000000 in
theorem isNegative_any (w : World) (a : Option Addr) (l : List Nat) (h : IsNat w a l) (hv : D.val l < b256) :
    Calls Safg.prog 104 #[.slice a l.length l.length] w fun e w' => e = .returned (.bool (isNegW (D.val l))) ∧ w' = w := by
  have hlen : l.length ≤ 32 := h.len (by rw [← b256_pow]; exact hv)
  have H := bit_any w a l.length l.length l h.rd (Nat.le_refl _) (by omega) 255 (by omega)
  rw [top_bit hv] at H
  clear hv
  go_enter Safg.func104, Safg.ntmps104
  go_wp2_with (go_at_call 261; refine H.mono ?_; rintro e w1 ⟨rfl, rfl⟩)
  go_ret
  exact ⟨rfl, rfl⟩

set_option maxRecDepth 100000 in
set_option maxHeartbeats 1000000 in
theorem withSign_any (w : World) (a : Option Addr) (l : List Nat) (h : IsNat w a l) (hv : D.val l < b256) (n : Bool) :
    Calls Safg.prog 103 #[.slice a l.length l.length, .bool n] w (NatRes w (sgnW (D.val l) n)) := by
  have hlen : l.length ≤ 32 := h.len (by rw [← b256_pow]; exact hv)
  have H := negated_any w a l h hv
  clear hv
  cases n
  · go_enter Safg.func103, Safg.ntmps103
    go_wp2_with (go_at_call 256; refine (norm_any _ _ _ _ l h.rd (Nat.le_refl _) (by omega)).mono ?_; rintro e w1 ⟨a1, rfl, m1, b1⟩)
    go_ret
    exact ⟨a1, _, rfl, m1.nat, D.trimL_val l, b1⟩
  · go_enter Safg.func103, Safg.ntmps103
    go_wp2_with (go_at_call 100; refine H.mono ?_; rintro e w1 ⟨a1, l1, rfl, n1, v1, b1⟩)
    go_ret
    exact ⟨a1, l1, rfl, n1, v1, b1⟩

set_option maxRecDepth 100000 in
set_option maxHeartbeats 1000000 in
theorem magnitude_any (w : World) (a : Option Addr) (l : List Nat) (h : IsNat w a l) (hv : D.val l < b256) :
    Calls Safg.prog 102 #[.slice a l.length l.length] w (NatRes w (magW (D.val l))) := by
  have H := isNegative_any w a l h hv
  have H2 := withSign_any w a l h hv (isNegW (D.val l))
  have e : sgnW (D.val l) (isNegW (D.val l)) = magW (D.val l) := rfl
  rw [e] at H2
  clear hv e
  generalize isNegW (D.val l) = q at *
  generalize magW (D.val l) = z at *
  go_enter Safg.func102, Safg.ntmps102
  go_wp2_with (first | (go_at_call 104; refine H.mono ?_; rintro e w1 ⟨rfl, hw⟩; subst hw) | (go_at_call 103; refine H2.mono ?_; rintro e w2 ⟨a1, l1, rfl, n1, v1, b1⟩))
  go_ret
  exact ⟨a1, l1, rfl, n1, v1, b1⟩

/-- a < b, read in two's complement. -/
def sltW (a b : Nat) : Bool := if isNegW a != isNegW b then isNegW a else decide (a < b)

set_option maxRecDepth 100000 in
set_option maxHeartbeats 1000000 in
theorem signedBelow_any (w : World) (a b : Option Addr) (A B : List Nat) (ha : IsNat w a A) (hb : IsNat w b B) (va : D.val A < b256) (vb : D.val B < b256) :
    Calls Safg.prog 109 #[.slice a A.length A.length, .slice b B.length B.length] w fun e w' => e = .returned (.bool (sltW (D.val A) (D.val B))) ∧ Same w w' := by
  have la : A.length ≤ 32 := ha.len (by rw [← b256_pow]; exact va)
  have lb : B.length ≤ 32 := hb.len (by rw [← b256_pow]; exact vb)
  have HA := isNegative_any w a A ha va
  have HB := isNegative_any w b B hb vb
  have HC := cmp_any w a b _ _ _ _ A B ha.rd hb.rd (Nat.le_refl _) (Nat.le_refl _) (by omega) (by omega)
  have hS : Same w w := Same.refl w
  obtain ⟨x, hx⟩ : ∃ x, D.val A = x := ⟨_, rfl⟩
  obtain ⟨y, hy⟩ : ∃ x, D.val B = x := ⟨_, rfl⟩
  rw [hx] at HA HC ⊢
  rw [hy] at HB HC ⊢
  have HS : Hid (sltW x y = (if isNegW x != isNegW y then isNegW x else decide (x < y))) := rfl
  rw [HS.out]
  clear va vb hx hy HS
  have HT : Hid (decide (D.cmpN x y < 0) = decide (x < y)) := by
    show _ = _
    congr 1
    apply propext
    rcases Nat.lt_trichotomy x y with h | h | h
    · rw [D.cmpN_lt h]; omega
    · rw [D.cmpN_eq h]; omega
    · rw [D.cmpN_gt h]; omega
  generalize isNegW x = p at *
  generalize isNegW y = q at *
  by_cases hpq : p = q
  · subst hpq
    have tp : (p != p) = false := by simp
    rw [tp]
    rw [if_neg (by decide), ← HT.out]
    generalize D.cmpN x y = z at *
    go_enter Safg.func109, Safg.ntmps109
    go_wp2_with (first | (go_at_call 104; first | (refine HA.mono ?_; rintro e w1 ⟨rfl, hw⟩; subst hw) | (refine HB.mono ?_; rintro e w1 ⟨rfl, hw⟩; subst hw)) | (go_at_call 108; refine HC.mono ?_; rintro e w1 ⟨rfl, hw⟩))
    go_ret
    exact ⟨rfl, hw⟩
  · have tp : (p != q) = true := by simpa using hpq
    rw [tp, if_pos rfl]
    cases p <;> cases q
    · exact absurd rfl hpq
    · go_enter Safg.func109, Safg.ntmps109
      go_wp2_with (first | (go_at_call 104; first | (refine HA.mono ?_; rintro e w1 ⟨rfl, hw⟩; subst hw) | (refine HB.mono ?_; rintro e w1 ⟨rfl, hw⟩; subst hw)))
      go_ret
      exact ⟨rfl, hS⟩
    · go_enter Safg.func109, Safg.ntmps109
      go_wp2_with (first | (go_at_call 104; first | (refine HA.mono ?_; rintro e w1 ⟨rfl, hw⟩; subst hw) | (refine HB.mono ?_; rintro e w1 ⟨rfl, hw⟩; subst hw)))
      go_ret
      exact ⟨rfl, hS⟩
    · exact absurd rfl hpq

theorem Own.of_slice (w : World) (x : Nat) (t : TypeId) : Own (w.alloc (.cells #[Value.int .u8 (x : Int)] t)) w.heap.size [x] := Own.alloc_cells w [x] t

set_option maxRecDepth 100000 in
set_option maxHeartbeats 1000000 in
theorem truth_any (w : World) (t : Bool) :
    Calls Safg.prog 107 #[.bool t] w (NatRes w (if t then 1 else 0)) := by
  cases t
  · go_enter Safg.func107, Safg.ntmps107
    go_wp2
    go_ret
    exact ⟨none, [], rfl, (Made.nil 0 w).nat, rfl, Below.refl _ _⟩
  · go_enter Safg.func107, Safg.ntmps107
    go_wp2
    go_ret
    exact ⟨_, [1], rfl, (Made.of_own (B := 0) (Own.of_slice w 1 5) (D.Dig.cons (by omega) D.Dig.nil) (fun _ => by decide) (by simp) (Nat.zero_le _)).nat, rfl, (Below.refl _ _).alloc (Nat.le_refl _) _⟩
end Go.Proofs.YgcsafGreat
