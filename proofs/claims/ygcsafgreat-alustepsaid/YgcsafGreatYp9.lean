/-
  'yp.Alu' (32), per opcode.
-/
import Derived.Test.YgcsafGreatYp8
import Derived.Test.YgcsafGreatDivOps
namespace Go.Proofs.YgcsafGreat
open Go.RowKit
set_option linter.unusedVariables false
set_option linter.unusedSimpArgs false

theorem divAny_nat (w : World) (a b : Option Addr) (A B : List Nat) (ha : IsNat w a A) (hb : IsNat w b B) (la : A.length ≤ 100) (lb : B.length ≤ 100) :
    Calls Safg.prog 101 #[.slice a A.length A.length, .slice b B.length B.length] w fun e w' => Below w.heap.size w w' ∧ ∃ qa q ra r ok, e = .returned (.tuple #[.slice qa q.length q.length, .slice ra r.length r.length, .bool ok]) ∧ IsNat w' qa q ∧ IsNat w' ra r ∧ D.val q = D.val A / D.val B ∧ D.val r = modW (D.val A) (D.val B) := by
  rcases Nat.eq_zero_or_pos (D.val B) with h | h
  · refine (div_zero w a b A B ha hb la lb h).mono fun e w' ⟨h1, h2⟩ => ⟨h1, none, [], none, [], false, h2, (Made.nil 0 _).nat, (Made.nil 0 _).nat, ?_, ?_⟩
    · rw [h, Nat.div_zero]; rfl
    · rw [h]; rfl
  · refine (div_nat w a b A B ha hb la lb h).mono fun e w' ⟨h1, qa, q, ra, r, h2, h3, h4, h5, h6⟩ => ⟨h1, qa, q, ra, r, true, h2, h3, h4, h5, ?_⟩
    rw [h6]; unfold modW; rw [if_neg (by omega)]

def bit01 (t : Bool) : Nat := if t then 1 else 0
/-- What the arithmetic instructions mean. -/
def aluW (o a b c : Nat) : Nat :=
  match o with
  | 1 => (a + b) % b256
  | 2 => a * b % b256
  | 3 => (a + negW b) % b256
  | 4 => a / b
  | 5 => sgnW (magW a / magW b) (isNegW a != isNegW b)
  | 6 => modW a b
  | 7 => sgnW (modW (magW a) (magW b)) (isNegW a)
  | 8 => modW (a + b) c
  | 9 => modW (a * b) c
  | 10 => a ^ b % b256
  | 11 => sextW a b
  | 16 => bit01 (decide (a < b))
  | 17 => bit01 (decide (b < a))
  | 18 => bit01 (sltW a b)
  | 19 => bit01 (sltW b a)
  | 20 => bit01 (decide (a = b))
  | 21 => bit01 (decide (a = 0))
  | 22 => a &&& b
  | 23 => a ||| b
  | 24 => a ^^^ b
  | 25 => b256 - 1 - a
  | 26 => byteW a b
  | 27 => shlW a b
  | 28 => shrW a b
  | 29 => sarW a b
  | _ => 0
theorem cmp_lt0 (x y : Nat) : decide (D.cmpN x y < 0) = decide (x < y) := by
  congr 1; apply propext
  rcases Nat.lt_trichotomy x y with h | h | h
  · rw [D.cmpN_lt h]; omega
  · rw [D.cmpN_eq h]; omega
  · rw [D.cmpN_gt h]; omega
theorem cmp_gt0 (x y : Nat) : decide (0 < D.cmpN x y) = decide (y < x) := by
  congr 1; apply propext
  rcases Nat.lt_trichotomy x y with h | h | h
  · rw [D.cmpN_lt h]; omega
  · rw [D.cmpN_eq h]; omega
  · rw [D.cmpN_gt h]; omega
theorem cmp_eq0 (x y : Nat) : (D.cmpN x y == 0) = decide (x = y) := by
  rw [Bool.eq_iff_iff, beq_iff_eq, decide_eq_true_eq]
  rcases Nat.lt_trichotomy x y with h | h | h
  · rw [D.cmpN_lt h]; omega
  · rw [D.cmpN_eq h]; omega
  · rw [D.cmpN_gt h]; omega
theorem modW_lt {a b : Nat} (h : a < b256) : modW a b < b256 := by
  unfold modW; split
  · exact b256_pos
  · exact Nat.lt_of_le_of_lt (Nat.mod_le _ _) h


set_option maxRecDepth 100000 in
set_option maxHeartbeats 2000000 in
theorem alu_1 (w : World) (a b c : Option Addr) (A B C : List Nat) (ha : IsNat w a A) (hb : IsNat w b B) (hc : IsNat w c C) (va : D.val A < b256) (vb : D.val B < b256) (vc : D.val C < b256) :
    Calls Safg.prog 32 #[.int .u8 1, .slice a A.length A.length, .slice b B.length B.length, .slice c C.length C.length] w (NatRes w (aluW 1 (D.val A) (D.val B) (D.val C))) := by
  have la : A.length ≤ 32 := ha.len (by rw [← b256_pow]; exact va)
  have lb : B.length ≤ 32 := hb.len (by rw [← b256_pow]; exact vb)
  have lc : C.length ≤ 32 := hc.len (by rw [← b256_pow]; exact vc)
  show Calls _ _ _ _ (NatRes w ((D.val A + D.val B) % b256))
  go_enter Safg.func32, Safg.ntmps32
  go_wp2_with (first | (go_at_call 98; refine (add_any _ a b _ _ _ _ A B ha.rd hb.rd (Nat.le_refl _) (Nat.le_refl _) (by omega) (by omega)).mono ?_; rintro e w1 ⟨a1, l1, rfl, m1, v1, hl1, b1⟩) | (go_at_call 97; refine (wrapped_nat _ a1 l1 m1.nat (by omega)).mono ?_; rintro e w2 ⟨a2, l2, rfl, n2, v2, b2⟩))
  go_ret
  exact ⟨a2, l2, rfl, n2, by rw [v2, v1], b1.trans (b2.mono b1.size)⟩

set_option maxRecDepth 100000 in
set_option maxHeartbeats 2000000 in
theorem alu_2 (w : World) (a b c : Option Addr) (A B C : List Nat) (ha : IsNat w a A) (hb : IsNat w b B) (hc : IsNat w c C) (va : D.val A < b256) (vb : D.val B < b256) (vc : D.val C < b256) :
    Calls Safg.prog 32 #[.int .u8 2, .slice a A.length A.length, .slice b B.length B.length, .slice c C.length C.length] w (NatRes w (aluW 2 (D.val A) (D.val B) (D.val C))) := by
  have la : A.length ≤ 32 := ha.len (by rw [← b256_pow]; exact va)
  have lb : B.length ≤ 32 := hb.len (by rw [← b256_pow]; exact vb)
  have lc : C.length ≤ 32 := hc.len (by rw [← b256_pow]; exact vc)
  show Calls _ _ _ _ (NatRes w (D.val A * D.val B % b256))
  go_enter Safg.func32, Safg.ntmps32
  go_wp2_with (first | (go_at_call 99; refine (mul_any _ a b _ _ _ _ A B ha.rd hb.rd (Nat.le_refl _) (Nat.le_refl _) (by omega) (by omega) (by omega)).mono ?_; rintro e w1 ⟨a1, l1, rfl, m1, v1, hl1, b1⟩) | (go_at_call 97; refine (wrapped_nat _ a1 l1 m1.nat (by omega)).mono ?_; rintro e w2 ⟨a2, l2, rfl, n2, v2, b2⟩))
  go_ret
  exact ⟨a2, l2, rfl, n2, by rw [v2, v1], b1.trans (b2.mono b1.size)⟩

set_option maxRecDepth 100000 in
set_option maxHeartbeats 2000000 in
theorem alu_3 (w : World) (a b c : Option Addr) (A B C : List Nat) (ha : IsNat w a A) (hb : IsNat w b B) (hc : IsNat w c C) (va : D.val A < b256) (vb : D.val B < b256) (vc : D.val C < b256) :
    Calls Safg.prog 32 #[.int .u8 3, .slice a A.length A.length, .slice b B.length B.length, .slice c C.length C.length] w (NatRes w (aluW 3 (D.val A) (D.val B) (D.val C))) := by
  have la : A.length ≤ 32 := ha.len (by rw [← b256_pow]; exact va)
  have lb : B.length ≤ 32 := hb.len (by rw [← b256_pow]; exact vb)
  have lc : C.length ≤ 32 := hc.len (by rw [← b256_pow]; exact vc)
  show Calls _ _ _ _ (NatRes w ((D.val A + negW (D.val B)) % b256))
  go_enter Safg.func32, Safg.ntmps32
  go_wp2_with (first | (go_at_call 100; refine (negated_any _ b B hb vb).mono ?_; rintro e w0 ⟨a0, l0, rfl, n0, v0, b0⟩; have l032 : l0.length ≤ 32 := n0.len (by rw [v0, ← b256_pow]; exact negW_lt _)) | (go_at_call 98; refine (add_any _ a a0 _ _ _ _ A l0 (ha.rd.below b0) n0.rd (Nat.le_refl _) (Nat.le_refl _) (by omega) (by omega)).mono ?_; rintro e w1 ⟨a1, l1, rfl, m1, v1, hl1, b1⟩) | (go_at_call 97; refine (wrapped_nat _ a1 l1 m1.nat (by omega)).mono ?_; rintro e w2 ⟨a2, l2, rfl, n2, v2, b2⟩))
  go_ret
  exact ⟨a2, l2, rfl, n2, by rw [v2, v1, v0], b0.trans ((b1.mono b0.size).trans (b2.mono (Nat.le_trans b0.size b1.size)))⟩

set_option maxRecDepth 100000 in
set_option maxHeartbeats 2000000 in
theorem alu_4 (w : World) (a b c : Option Addr) (A B C : List Nat) (ha : IsNat w a A) (hb : IsNat w b B) (hc : IsNat w c C) (va : D.val A < b256) (vb : D.val B < b256) (vc : D.val C < b256) :
    Calls Safg.prog 32 #[.int .u8 4, .slice a A.length A.length, .slice b B.length B.length, .slice c C.length C.length] w (NatRes w (aluW 4 (D.val A) (D.val B) (D.val C))) := by
  have la : A.length ≤ 32 := ha.len (by rw [← b256_pow]; exact va)
  have lb : B.length ≤ 32 := hb.len (by rw [← b256_pow]; exact vb)
  have lc : C.length ≤ 32 := hc.len (by rw [← b256_pow]; exact vc)
  show Calls _ _ _ _ (NatRes w (D.val A / D.val B))
  go_enter Safg.func32, Safg.ntmps32
  go_wp2_with (first | (go_at_call 101; refine (divAny_nat _ a b A B ha hb (by omega) (by omega)).mono ?_; rintro e w3 ⟨b3, qa, q, ra, r, ok, rfl, nq, nr, vq, vr⟩))
  go_ret
  exact ⟨qa, q, rfl, nq, vq, b3⟩

set_option maxRecDepth 100000 in
set_option maxHeartbeats 2000000 in
theorem alu_5 (w : World) (a b c : Option Addr) (A B C : List Nat) (ha : IsNat w a A) (hb : IsNat w b B) (hc : IsNat w c C) (va : D.val A < b256) (vb : D.val B < b256) (vc : D.val C < b256) :
    Calls Safg.prog 32 #[.int .u8 5, .slice a A.length A.length, .slice b B.length B.length, .slice c C.length C.length] w (NatRes w (aluW 5 (D.val A) (D.val B) (D.val C))) := by
  have la : A.length ≤ 32 := ha.len (by rw [← b256_pow]; exact va)
  have lb : B.length ≤ 32 := hb.len (by rw [← b256_pow]; exact vb)
  have lc : C.length ≤ 32 := hc.len (by rw [← b256_pow]; exact vc)
  show Calls _ _ _ _ (NatRes w (sgnW (magW (D.val A) / magW (D.val B)) (isNegW (D.val A) != isNegW (D.val B))))
  go_enter Safg.func32, Safg.ntmps32
  go_wp2_with (first | (go_at_call 102; first | ((fail_if_success (revert n1)); refine (magnitude_any _ a A ha va).mono ?_; rintro e w1 ⟨a1, l1, rfl, n1, v1, b1⟩; have l132 : l1.length ≤ 32 := n1.len (by rw [v1, ← b256_pow]; exact magW_lt va)) | (refine (magnitude_any _ b B (hb.below b1) vb).mono ?_; rintro e w2 ⟨a2, l2, rfl, n2, v2, b2⟩; have l232 : l2.length ≤ 32 := n2.len (by rw [v2, ← b256_pow]; exact magW_lt vb))) | (go_at_call 101; refine (divAny_nat _ a1 a2 l1 l2 (n1.below b2) n2 (by omega) (by omega)).mono ?_; rintro e w3 ⟨b3, qa, q, ra, r, ok, rfl, nq, nr, vq, vr⟩; have bb : Below w.heap.size w w3 := b1.trans ((b2.mono b1.size).trans (b3.mono (Nat.le_trans b1.size b2.size))); rw [v1, v2] at vq vr; have VQ : D.val q < b256 := (by rw [vq]; exact Nat.lt_of_le_of_lt (Nat.div_le_self _ _) (magW_lt va)); have VR : D.val r < b256 := (by rw [vr]; exact modW_lt (magW_lt va))) | (go_at_call 104; first | ((fail_if_success (revert tA)); refine (isNegative_any _ a A (ha.below bb) va).mono ?_; rintro e w4 ⟨rfl, hw⟩; subst hw; have tA : True := trivial) | (refine (isNegative_any _ b B (hb.below bb) vb).mono ?_; rintro e w4 ⟨rfl, hw⟩; subst hw)) | (go_at_call 103; refine (withSign_any _ qa q nq VQ _).mono ?_; rintro e w5 ⟨a5, l5, rfl, n5, v5, b5⟩))
  go_ret
  exact ⟨a5, l5, rfl, n5, by rw [v5, vq]; rfl, bb.trans (b5.mono bb.size)⟩

set_option maxRecDepth 100000 in
set_option maxHeartbeats 2000000 in
theorem alu_6 (w : World) (a b c : Option Addr) (A B C : List Nat) (ha : IsNat w a A) (hb : IsNat w b B) (hc : IsNat w c C) (va : D.val A < b256) (vb : D.val B < b256) (vc : D.val C < b256) :
    Calls Safg.prog 32 #[.int .u8 6, .slice a A.length A.length, .slice b B.length B.length, .slice c C.length C.length] w (NatRes w (aluW 6 (D.val A) (D.val B) (D.val C))) := by
  have la : A.length ≤ 32 := ha.len (by rw [← b256_pow]; exact va)
  have lb : B.length ≤ 32 := hb.len (by rw [← b256_pow]; exact vb)
  have lc : C.length ≤ 32 := hc.len (by rw [← b256_pow]; exact vc)
  show Calls _ _ _ _ (NatRes w (modW (D.val A) (D.val B)))
  go_enter Safg.func32, Safg.ntmps32
  go_wp2_with (first | (go_at_call 101; refine (divAny_nat _ a b A B ha hb (by omega) (by omega)).mono ?_; rintro e w3 ⟨b3, qa, q, ra, r, ok, rfl, nq, nr, vq, vr⟩))
  go_ret
  exact ⟨ra, r, rfl, nr, vr, b3⟩

set_option maxRecDepth 100000 in
set_option maxHeartbeats 2000000 in
theorem alu_7 (w : World) (a b c : Option Addr) (A B C : List Nat) (ha : IsNat w a A) (hb : IsNat w b B) (hc : IsNat w c C) (va : D.val A < b256) (vb : D.val B < b256) (vc : D.val C < b256) :
    Calls Safg.prog 32 #[.int .u8 7, .slice a A.length A.length, .slice b B.length B.length, .slice c C.length C.length] w (NatRes w (aluW 7 (D.val A) (D.val B) (D.val C))) := by
  have la : A.length ≤ 32 := ha.len (by rw [← b256_pow]; exact va)
  have lb : B.length ≤ 32 := hb.len (by rw [← b256_pow]; exact vb)
  have lc : C.length ≤ 32 := hc.len (by rw [← b256_pow]; exact vc)
  show Calls _ _ _ _ (NatRes w (sgnW (modW (magW (D.val A)) (magW (D.val B))) (isNegW (D.val A))))
  go_enter Safg.func32, Safg.ntmps32
  go_wp2_with (first | (go_at_call 102; first | ((fail_if_success (revert n1)); refine (magnitude_any _ a A ha va).mono ?_; rintro e w1 ⟨a1, l1, rfl, n1, v1, b1⟩; have l132 : l1.length ≤ 32 := n1.len (by rw [v1, ← b256_pow]; exact magW_lt va)) | (refine (magnitude_any _ b B (hb.below b1) vb).mono ?_; rintro e w2 ⟨a2, l2, rfl, n2, v2, b2⟩; have l232 : l2.length ≤ 32 := n2.len (by rw [v2, ← b256_pow]; exact magW_lt vb))) | (go_at_call 101; refine (divAny_nat _ a1 a2 l1 l2 (n1.below b2) n2 (by omega) (by omega)).mono ?_; rintro e w3 ⟨b3, qa, q, ra, r, ok, rfl, nq, nr, vq, vr⟩; have bb : Below w.heap.size w w3 := b1.trans ((b2.mono b1.size).trans (b3.mono (Nat.le_trans b1.size b2.size))); rw [v1, v2] at vq vr; have VQ : D.val q < b256 := (by rw [vq]; exact Nat.lt_of_le_of_lt (Nat.div_le_self _ _) (magW_lt va)); have VR : D.val r < b256 := (by rw [vr]; exact modW_lt (magW_lt va))) | (go_at_call 104; first | ((fail_if_success (revert tA)); refine (isNegative_any _ a A (ha.below bb) va).mono ?_; rintro e w4 ⟨rfl, hw⟩; subst hw; have tA : True := trivial) | (refine (isNegative_any _ b B (hb.below bb) vb).mono ?_; rintro e w4 ⟨rfl, hw⟩; subst hw)) | (go_at_call 103; refine (withSign_any _ ra r nr VR _).mono ?_; rintro e w5 ⟨a5, l5, rfl, n5, v5, b5⟩))
  go_ret
  exact ⟨a5, l5, rfl, n5, by rw [v5, vr], bb.trans (b5.mono bb.size)⟩

set_option maxRecDepth 100000 in
set_option maxHeartbeats 2000000 in
theorem alu_8 (w : World) (a b c : Option Addr) (A B C : List Nat) (ha : IsNat w a A) (hb : IsNat w b B) (hc : IsNat w c C) (va : D.val A < b256) (vb : D.val B < b256) (vc : D.val C < b256) :
    Calls Safg.prog 32 #[.int .u8 8, .slice a A.length A.length, .slice b B.length B.length, .slice c C.length C.length] w (NatRes w (aluW 8 (D.val A) (D.val B) (D.val C))) := by
  have la : A.length ≤ 32 := ha.len (by rw [← b256_pow]; exact va)
  have lb : B.length ≤ 32 := hb.len (by rw [← b256_pow]; exact vb)
  have lc : C.length ≤ 32 := hc.len (by rw [← b256_pow]; exact vc)
  show Calls _ _ _ _ (NatRes w (modW (D.val A + D.val B) (D.val C)))
  go_enter Safg.func32, Safg.ntmps32
  go_wp2_with (first | (go_at_call 98; refine (add_any _ a b _ _ _ _ A B ha.rd hb.rd (Nat.le_refl _) (Nat.le_refl _) (by omega) (by omega)).mono ?_; rintro e w1 ⟨a1, l1, rfl, m1, v1, hl1, b1⟩) | (go_at_call 101; refine (divAny_nat _ a1 c l1 C m1.nat (hc.below b1) (by omega) (by omega)).mono ?_; rintro e w3 ⟨b3, qa, q, ra, r, ok, rfl, nq, nr, vq, vr⟩))
  go_ret
  exact ⟨ra, r, rfl, nr, by rw [vr, v1], b1.trans (b3.mono b1.size)⟩

set_option maxRecDepth 100000 in
set_option maxHeartbeats 2000000 in
theorem alu_9 (w : World) (a b c : Option Addr) (A B C : List Nat) (ha : IsNat w a A) (hb : IsNat w b B) (hc : IsNat w c C) (va : D.val A < b256) (vb : D.val B < b256) (vc : D.val C < b256) :
    Calls Safg.prog 32 #[.int .u8 9, .slice a A.length A.length, .slice b B.length B.length, .slice c C.length C.length] w (NatRes w (aluW 9 (D.val A) (D.val B) (D.val C))) := by
  have la : A.length ≤ 32 := ha.len (by rw [← b256_pow]; exact va)
  have lb : B.length ≤ 32 := hb.len (by rw [← b256_pow]; exact vb)
  have lc : C.length ≤ 32 := hc.len (by rw [← b256_pow]; exact vc)
  show Calls _ _ _ _ (NatRes w (modW (D.val A * D.val B) (D.val C)))
  go_enter Safg.func32, Safg.ntmps32
  go_wp2_with (first | (go_at_call 99; refine (mul_any _ a b _ _ _ _ A B ha.rd hb.rd (Nat.le_refl _) (Nat.le_refl _) (by omega) (by omega) (by omega)).mono ?_; rintro e w1 ⟨a1, l1, rfl, m1, v1, hl1, b1⟩) | (go_at_call 101; refine (divAny_nat _ a1 c l1 C m1.nat (hc.below b1) (by omega) (by omega)).mono ?_; rintro e w3 ⟨b3, qa, q, ra, r, ok, rfl, nq, nr, vq, vr⟩))
  go_ret
  exact ⟨ra, r, rfl, nr, by rw [vr, v1], b1.trans (b3.mono b1.size)⟩

set_option maxRecDepth 100000 in
set_option maxHeartbeats 2000000 in
theorem alu_10 (w : World) (a b c : Option Addr) (A B C : List Nat) (ha : IsNat w a A) (hb : IsNat w b B) (hc : IsNat w c C) (va : D.val A < b256) (vb : D.val B < b256) (vc : D.val C < b256) :
    Calls Safg.prog 32 #[.int .u8 10, .slice a A.length A.length, .slice b B.length B.length, .slice c C.length C.length] w (NatRes w (aluW 10 (D.val A) (D.val B) (D.val C))) := by
  have la : A.length ≤ 32 := ha.len (by rw [← b256_pow]; exact va)
  have lb : B.length ≤ 32 := hb.len (by rw [← b256_pow]; exact vb)
  have lc : C.length ≤ 32 := hc.len (by rw [← b256_pow]; exact vc)
  show Calls _ _ _ _ (NatRes w (D.val A ^ D.val B % b256))
  go_enter Safg.func32, Safg.ntmps32
  go_wp2_with (first | (go_at_call 105; refine (power_any _ a b A B ha hb va vb).mono ?_; rintro e w1 ⟨a1, l1, rfl, n1, v1, b1⟩))
  go_ret
  exact ⟨a1, l1, rfl, n1, v1, b1⟩

set_option maxRecDepth 100000 in
set_option maxHeartbeats 2000000 in
theorem alu_11 (w : World) (a b c : Option Addr) (A B C : List Nat) (ha : IsNat w a A) (hb : IsNat w b B) (hc : IsNat w c C) (va : D.val A < b256) (vb : D.val B < b256) (vc : D.val C < b256) :
    Calls Safg.prog 32 #[.int .u8 11, .slice a A.length A.length, .slice b B.length B.length, .slice c C.length C.length] w (NatRes w (aluW 11 (D.val A) (D.val B) (D.val C))) := by
  have la : A.length ≤ 32 := ha.len (by rw [← b256_pow]; exact va)
  have lb : B.length ≤ 32 := hb.len (by rw [← b256_pow]; exact vb)
  have lc : C.length ≤ 32 := hc.len (by rw [← b256_pow]; exact vc)
  show Calls _ _ _ _ (NatRes w (sextW (D.val A) (D.val B)))
  go_enter Safg.func32, Safg.ntmps32
  go_wp2_with (first | (go_at_call 106; refine (signExtended_any _ a b A B ha hb va vb).mono ?_; rintro e w1 ⟨a1, l1, rfl, n1, v1, b1⟩))
  go_ret
  exact ⟨a1, l1, rfl, n1, v1, b1⟩

set_option maxRecDepth 100000 in
set_option maxHeartbeats 2000000 in
theorem alu_16 (w : World) (a b c : Option Addr) (A B C : List Nat) (ha : IsNat w a A) (hb : IsNat w b B) (hc : IsNat w c C) (va : D.val A < b256) (vb : D.val B < b256) (vc : D.val C < b256) :
    Calls Safg.prog 32 #[.int .u8 16, .slice a A.length A.length, .slice b B.length B.length, .slice c C.length C.length] w (NatRes w (aluW 16 (D.val A) (D.val B) (D.val C))) := by
  have la : A.length ≤ 32 := ha.len (by rw [← b256_pow]; exact va)
  have lb : B.length ≤ 32 := hb.len (by rw [← b256_pow]; exact vb)
  have lc : C.length ≤ 32 := hc.len (by rw [← b256_pow]; exact vc)
  show Calls _ _ _ _ (NatRes w (bit01 (decide (D.val A < D.val B))))
  obtain ⟨t, HT⟩ : ∃ t, Hid (decide (D.val A < D.val B) = t) := ⟨_, rfl⟩
  rw [HT.out]
  have HC := cmp_lt0 (D.val A) (D.val B)
  rw [HT.out] at HC
  have HM := cmp_any w a b _ _ _ _ A B ha.rd hb.rd (Nat.le_refl _) (Nat.le_refl _) (by omega) (by omega)
  generalize D.cmpN (D.val A) (D.val B) = z at *
  go_enter Safg.func32, Safg.ntmps32
  go_wp2_with (first | (go_at_call 108; refine HM.mono ?_; rintro e w1 ⟨rfl, s1⟩; have b1 := s1.below w.heap.size) | (go_at_call 107; refine (truth_any _ t).mono ?_; rintro e w2 ⟨a2, l2, rfl, n2, v2, b2⟩))
  go_ret
  exact ⟨a2, l2, rfl, n2, v2, b1.trans (b2.mono b1.size)⟩

set_option maxRecDepth 100000 in
set_option maxHeartbeats 2000000 in
theorem alu_17 (w : World) (a b c : Option Addr) (A B C : List Nat) (ha : IsNat w a A) (hb : IsNat w b B) (hc : IsNat w c C) (va : D.val A < b256) (vb : D.val B < b256) (vc : D.val C < b256) :
    Calls Safg.prog 32 #[.int .u8 17, .slice a A.length A.length, .slice b B.length B.length, .slice c C.length C.length] w (NatRes w (aluW 17 (D.val A) (D.val B) (D.val C))) := by
  have la : A.length ≤ 32 := ha.len (by rw [← b256_pow]; exact va)
  have lb : B.length ≤ 32 := hb.len (by rw [← b256_pow]; exact vb)
  have lc : C.length ≤ 32 := hc.len (by rw [← b256_pow]; exact vc)
  show Calls _ _ _ _ (NatRes w (bit01 (decide (D.val B < D.val A))))
  obtain ⟨t, HT⟩ : ∃ t, Hid (decide (D.val B < D.val A) = t) := ⟨_, rfl⟩
  rw [HT.out]
  have HC := cmp_gt0 (D.val A) (D.val B)
  rw [HT.out] at HC
  have HM := cmp_any w a b _ _ _ _ A B ha.rd hb.rd (Nat.le_refl _) (Nat.le_refl _) (by omega) (by omega)
  generalize D.cmpN (D.val A) (D.val B) = z at *
  go_enter Safg.func32, Safg.ntmps32
  go_wp2_with (first | (go_at_call 108; refine HM.mono ?_; rintro e w1 ⟨rfl, s1⟩; have b1 := s1.below w.heap.size) | (go_at_call 107; refine (truth_any _ t).mono ?_; rintro e w2 ⟨a2, l2, rfl, n2, v2, b2⟩))
  go_ret
  exact ⟨a2, l2, rfl, n2, v2, b1.trans (b2.mono b1.size)⟩

set_option maxRecDepth 100000 in
set_option maxHeartbeats 2000000 in
theorem alu_18 (w : World) (a b c : Option Addr) (A B C : List Nat) (ha : IsNat w a A) (hb : IsNat w b B) (hc : IsNat w c C) (va : D.val A < b256) (vb : D.val B < b256) (vc : D.val C < b256) :
    Calls Safg.prog 32 #[.int .u8 18, .slice a A.length A.length, .slice b B.length B.length, .slice c C.length C.length] w (NatRes w (aluW 18 (D.val A) (D.val B) (D.val C))) := by
  have la : A.length ≤ 32 := ha.len (by rw [← b256_pow]; exact va)
  have lb : B.length ≤ 32 := hb.len (by rw [← b256_pow]; exact vb)
  have lc : C.length ≤ 32 := hc.len (by rw [← b256_pow]; exact vc)
  show Calls _ _ _ _ (NatRes w (bit01 (sltW (D.val A) (D.val B))))
  have HM := signedBelow_any w a b A B ha hb va vb
  generalize sltW (D.val A) (D.val B) = t at *
  go_enter Safg.func32, Safg.ntmps32
  go_wp2_with (first | (go_at_call 109; refine HM.mono ?_; rintro e w1 ⟨rfl, s1⟩; have b1 := s1.below w.heap.size) | (go_at_call 107; refine (truth_any _ t).mono ?_; rintro e w2 ⟨a2, l2, rfl, n2, v2, b2⟩))
  go_ret
  exact ⟨a2, l2, rfl, n2, v2, b1.trans (b2.mono b1.size)⟩

set_option maxRecDepth 100000 in
set_option maxHeartbeats 2000000 in
theorem alu_19 (w : World) (a b c : Option Addr) (A B C : List Nat) (ha : IsNat w a A) (hb : IsNat w b B) (hc : IsNat w c C) (va : D.val A < b256) (vb : D.val B < b256) (vc : D.val C < b256) :
    Calls Safg.prog 32 #[.int .u8 19, .slice a A.length A.length, .slice b B.length B.length, .slice c C.length C.length] w (NatRes w (aluW 19 (D.val A) (D.val B) (D.val C))) := by
  have la : A.length ≤ 32 := ha.len (by rw [← b256_pow]; exact va)
  have lb : B.length ≤ 32 := hb.len (by rw [← b256_pow]; exact vb)
  have lc : C.length ≤ 32 := hc.len (by rw [← b256_pow]; exact vc)
  show Calls _ _ _ _ (NatRes w (bit01 (sltW (D.val B) (D.val A))))
  have HM := signedBelow_any w b a B A hb ha vb va
  generalize sltW (D.val B) (D.val A) = t at *
  go_enter Safg.func32, Safg.ntmps32
  go_wp2_with (first | (go_at_call 109; refine HM.mono ?_; rintro e w1 ⟨rfl, s1⟩; have b1 := s1.below w.heap.size) | (go_at_call 107; refine (truth_any _ t).mono ?_; rintro e w2 ⟨a2, l2, rfl, n2, v2, b2⟩))
  go_ret
  exact ⟨a2, l2, rfl, n2, v2, b1.trans (b2.mono b1.size)⟩

set_option maxRecDepth 100000 in
set_option maxHeartbeats 2000000 in
theorem alu_20 (w : World) (a b c : Option Addr) (A B C : List Nat) (ha : IsNat w a A) (hb : IsNat w b B) (hc : IsNat w c C) (va : D.val A < b256) (vb : D.val B < b256) (vc : D.val C < b256) :
    Calls Safg.prog 32 #[.int .u8 20, .slice a A.length A.length, .slice b B.length B.length, .slice c C.length C.length] w (NatRes w (aluW 20 (D.val A) (D.val B) (D.val C))) := by
  have la : A.length ≤ 32 := ha.len (by rw [← b256_pow]; exact va)
  have lb : B.length ≤ 32 := hb.len (by rw [← b256_pow]; exact vb)
  have lc : C.length ≤ 32 := hc.len (by rw [← b256_pow]; exact vc)
  show Calls _ _ _ _ (NatRes w (bit01 (decide (D.val A = D.val B))))
  obtain ⟨t, HT⟩ : ∃ t, Hid (decide (D.val A = D.val B) = t) := ⟨_, rfl⟩
  rw [HT.out]
  have HC := cmp_eq0 (D.val A) (D.val B)
  rw [HT.out] at HC
  have HM := cmp_any w a b _ _ _ _ A B ha.rd hb.rd (Nat.le_refl _) (Nat.le_refl _) (by omega) (by omega)
  generalize D.cmpN (D.val A) (D.val B) = z at *
  go_enter Safg.func32, Safg.ntmps32
  go_wp2_with (first | (go_at_call 108; refine HM.mono ?_; rintro e w1 ⟨rfl, s1⟩; have b1 := s1.below w.heap.size) | (go_at_call 107; refine (truth_any _ t).mono ?_; rintro e w2 ⟨a2, l2, rfl, n2, v2, b2⟩))
  go_ret
  exact ⟨a2, l2, rfl, n2, v2, b1.trans (b2.mono b1.size)⟩

set_option maxRecDepth 100000 in
set_option maxHeartbeats 2000000 in
theorem alu_21 (w : World) (a b c : Option Addr) (A B C : List Nat) (ha : IsNat w a A) (hb : IsNat w b B) (hc : IsNat w c C) (va : D.val A < b256) (vb : D.val B < b256) (vc : D.val C < b256) :
    Calls Safg.prog 32 #[.int .u8 21, .slice a A.length A.length, .slice b B.length B.length, .slice c C.length C.length] w (NatRes w (aluW 21 (D.val A) (D.val B) (D.val C))) := by
  have la : A.length ≤ 32 := ha.len (by rw [← b256_pow]; exact va)
  have lb : B.length ≤ 32 := hb.len (by rw [← b256_pow]; exact vb)
  have lc : C.length ≤ 32 := hc.len (by rw [← b256_pow]; exact vc)
  show Calls _ _ _ _ (NatRes w (bit01 (decide (D.val A = 0))))
  obtain ⟨t, HT⟩ : ∃ t, Hid (decide (D.val A = 0) = t) := ⟨_, rfl⟩
  rw [HT.out]
  have HC := cmp_eq0 (D.val A) (D.val [])
  rw [show D.val [] = 0 from rfl, HT.out] at HC
  have HM := cmp_any w a none _ _ 0 0 A [] ha.rd (Rd.nil _ _) (Nat.le_refl _) (Nat.le_refl _) (by omega) (by omega)
  rw [show D.val [] = 0 from rfl] at HM
  generalize D.cmpN (D.val A) 0 = z at *
  go_enter Safg.func32, Safg.ntmps32
  go_wp2_with (first | (go_at_call 108; refine HM.mono ?_; rintro e w1 ⟨rfl, s1⟩; have b1 := s1.below w.heap.size) | (go_at_call 107; refine (truth_any _ t).mono ?_; rintro e w2 ⟨a2, l2, rfl, n2, v2, b2⟩))
  go_ret
  exact ⟨a2, l2, rfl, n2, v2, b1.trans (b2.mono b1.size)⟩

set_option maxRecDepth 100000 in
set_option maxHeartbeats 2000000 in
theorem alu_22 (w : World) (a b c : Option Addr) (A B C : List Nat) (ha : IsNat w a A) (hb : IsNat w b B) (hc : IsNat w c C) (va : D.val A < b256) (vb : D.val B < b256) (vc : D.val C < b256) :
    Calls Safg.prog 32 #[.int .u8 22, .slice a A.length A.length, .slice b B.length B.length, .slice c C.length C.length] w (NatRes w (aluW 22 (D.val A) (D.val B) (D.val C))) := by
  have la : A.length ≤ 32 := ha.len (by rw [← b256_pow]; exact va)
  have lb : B.length ≤ 32 := hb.len (by rw [← b256_pow]; exact vb)
  have lc : C.length ≤ 32 := hc.len (by rw [← b256_pow]; exact vc)
  show Calls _ _ _ _ (NatRes w (D.val A &&& D.val B))
  go_enter Safg.func32, Safg.ntmps32
  go_wp2_with (first | (go_at_call 110; refine (bitwise_and _ a b A B ha hb va vb).mono ?_; rintro e w1 ⟨a1, l1, rfl, n1, v1, b1⟩))
  go_ret
  exact ⟨a1, l1, rfl, n1, v1, b1⟩

set_option maxRecDepth 100000 in
set_option maxHeartbeats 2000000 in
theorem alu_23 (w : World) (a b c : Option Addr) (A B C : List Nat) (ha : IsNat w a A) (hb : IsNat w b B) (hc : IsNat w c C) (va : D.val A < b256) (vb : D.val B < b256) (vc : D.val C < b256) :
    Calls Safg.prog 32 #[.int .u8 23, .slice a A.length A.length, .slice b B.length B.length, .slice c C.length C.length] w (NatRes w (aluW 23 (D.val A) (D.val B) (D.val C))) := by
  have la : A.length ≤ 32 := ha.len (by rw [← b256_pow]; exact va)
  have lb : B.length ≤ 32 := hb.len (by rw [← b256_pow]; exact vb)
  have lc : C.length ≤ 32 := hc.len (by rw [← b256_pow]; exact vc)
  show Calls _ _ _ _ (NatRes w (D.val A ||| D.val B))
  go_enter Safg.func32, Safg.ntmps32
  go_wp2_with (first | (go_at_call 110; refine (bitwise_or _ a b A B ha hb va vb).mono ?_; rintro e w1 ⟨a1, l1, rfl, n1, v1, b1⟩))
  go_ret
  exact ⟨a1, l1, rfl, n1, v1, b1⟩

set_option maxRecDepth 100000 in
set_option maxHeartbeats 2000000 in
theorem alu_24 (w : World) (a b c : Option Addr) (A B C : List Nat) (ha : IsNat w a A) (hb : IsNat w b B) (hc : IsNat w c C) (va : D.val A < b256) (vb : D.val B < b256) (vc : D.val C < b256) :
    Calls Safg.prog 32 #[.int .u8 24, .slice a A.length A.length, .slice b B.length B.length, .slice c C.length C.length] w (NatRes w (aluW 24 (D.val A) (D.val B) (D.val C))) := by
  have la : A.length ≤ 32 := ha.len (by rw [← b256_pow]; exact va)
  have lb : B.length ≤ 32 := hb.len (by rw [← b256_pow]; exact vb)
  have lc : C.length ≤ 32 := hc.len (by rw [← b256_pow]; exact vc)
  show Calls _ _ _ _ (NatRes w (D.val A ^^^ D.val B))
  go_enter Safg.func32, Safg.ntmps32
  go_wp2_with (first | (go_at_call 110; refine (bitwise_xor _ a b A B ha hb va vb).mono ?_; rintro e w1 ⟨a1, l1, rfl, n1, v1, b1⟩))
  go_ret
  exact ⟨a1, l1, rfl, n1, v1, b1⟩

set_option maxRecDepth 100000 in
set_option maxHeartbeats 2000000 in
theorem alu_25 (w : World) (a b c : Option Addr) (A B C : List Nat) (ha : IsNat w a A) (hb : IsNat w b B) (hc : IsNat w c C) (va : D.val A < b256) (vb : D.val B < b256) (vc : D.val C < b256) :
    Calls Safg.prog 32 #[.int .u8 25, .slice a A.length A.length, .slice b B.length B.length, .slice c C.length C.length] w (NatRes w (aluW 25 (D.val A) (D.val B) (D.val C))) := by
  have la : A.length ≤ 32 := ha.len (by rw [← b256_pow]; exact va)
  have lb : B.length ≤ 32 := hb.len (by rw [← b256_pow]; exact vb)
  have lc : C.length ≤ 32 := hc.len (by rw [← b256_pow]; exact vc)
  show Calls _ _ _ _ (NatRes w (b256 - 1 - D.val A))
  go_enter Safg.func32, Safg.ntmps32
  go_wp2_with (first | (go_at_call 110; refine (bitwise_not _ a b A B ha hb va vb).mono ?_; rintro e w1 ⟨a1, l1, rfl, n1, v1, b1⟩))
  go_ret
  exact ⟨a1, l1, rfl, n1, v1, b1⟩

set_option maxRecDepth 100000 in
set_option maxHeartbeats 2000000 in
theorem alu_26 (w : World) (a b c : Option Addr) (A B C : List Nat) (ha : IsNat w a A) (hb : IsNat w b B) (hc : IsNat w c C) (va : D.val A < b256) (vb : D.val B < b256) (vc : D.val C < b256) :
    Calls Safg.prog 32 #[.int .u8 26, .slice a A.length A.length, .slice b B.length B.length, .slice c C.length C.length] w (NatRes w (aluW 26 (D.val A) (D.val B) (D.val C))) := by
  have la : A.length ≤ 32 := ha.len (by rw [← b256_pow]; exact va)
  have lb : B.length ≤ 32 := hb.len (by rw [← b256_pow]; exact vb)
  have lc : C.length ≤ 32 := hc.len (by rw [← b256_pow]; exact vc)
  show Calls _ _ _ _ (NatRes w (byteW (D.val A) (D.val B)))
  go_enter Safg.func32, Safg.ntmps32
  go_wp2_with (first | (go_at_call 111; refine (pickedByte_any _ a b A B ha hb va vb).mono ?_; rintro e w1 ⟨a1, l1, rfl, n1, v1, b1⟩))
  go_ret
  exact ⟨a1, l1, rfl, n1, v1, b1⟩

set_option maxRecDepth 100000 in
set_option maxHeartbeats 2000000 in
theorem alu_27 (w : World) (a b c : Option Addr) (A B C : List Nat) (ha : IsNat w a A) (hb : IsNat w b B) (hc : IsNat w c C) (va : D.val A < b256) (vb : D.val B < b256) (vc : D.val C < b256) :
    Calls Safg.prog 32 #[.int .u8 27, .slice a A.length A.length, .slice b B.length B.length, .slice c C.length C.length] w (NatRes w (aluW 27 (D.val A) (D.val B) (D.val C))) := by
  have la : A.length ≤ 32 := ha.len (by rw [← b256_pow]; exact va)
  have lb : B.length ≤ 32 := hb.len (by rw [← b256_pow]; exact vb)
  have lc : C.length ≤ 32 := hc.len (by rw [← b256_pow]; exact vc)
  show Calls _ _ _ _ (NatRes w (shlW (D.val A) (D.val B)))
  go_enter Safg.func32, Safg.ntmps32
  go_wp2_with (first | (go_at_call 112; refine (shifted_shl _ a b A B ha hb va vb).mono ?_; rintro e w1 ⟨a1, l1, rfl, n1, v1, b1⟩))
  go_ret
  exact ⟨a1, l1, rfl, n1, v1, b1⟩

set_option maxRecDepth 100000 in
set_option maxHeartbeats 2000000 in
theorem alu_28 (w : World) (a b c : Option Addr) (A B C : List Nat) (ha : IsNat w a A) (hb : IsNat w b B) (hc : IsNat w c C) (va : D.val A < b256) (vb : D.val B < b256) (vc : D.val C < b256) :
    Calls Safg.prog 32 #[.int .u8 28, .slice a A.length A.length, .slice b B.length B.length, .slice c C.length C.length] w (NatRes w (aluW 28 (D.val A) (D.val B) (D.val C))) := by
  have la : A.length ≤ 32 := ha.len (by rw [← b256_pow]; exact va)
  have lb : B.length ≤ 32 := hb.len (by rw [← b256_pow]; exact vb)
  have lc : C.length ≤ 32 := hc.len (by rw [← b256_pow]; exact vc)
  show Calls _ _ _ _ (NatRes w (shrW (D.val A) (D.val B)))
  go_enter Safg.func32, Safg.ntmps32
  go_wp2_with (first | (go_at_call 112; refine (shifted_shr _ a b A B ha hb va vb).mono ?_; rintro e w1 ⟨a1, l1, rfl, n1, v1, b1⟩))
  go_ret
  exact ⟨a1, l1, rfl, n1, v1, b1⟩

set_option maxRecDepth 100000 in
set_option maxHeartbeats 2000000 in
theorem alu_29 (w : World) (a b c : Option Addr) (A B C : List Nat) (ha : IsNat w a A) (hb : IsNat w b B) (hc : IsNat w c C) (va : D.val A < b256) (vb : D.val B < b256) (vc : D.val C < b256) :
    Calls Safg.prog 32 #[.int .u8 29, .slice a A.length A.length, .slice b B.length B.length, .slice c C.length C.length] w (NatRes w (aluW 29 (D.val A) (D.val B) (D.val C))) := by
  have la : A.length ≤ 32 := ha.len (by rw [← b256_pow]; exact va)
  have lb : B.length ≤ 32 := hb.len (by rw [← b256_pow]; exact vb)
  have lc : C.length ≤ 32 := hc.len (by rw [← b256_pow]; exact vc)
  show Calls _ _ _ _ (NatRes w (sarW (D.val A) (D.val B)))
  go_enter Safg.func32, Safg.ntmps32
  go_wp2_with (first | (go_at_call 112; refine (shifted_sar _ a b A B ha hb va vb).mono ?_; rintro e w1 ⟨a1, l1, rfl, n1, v1, b1⟩))
  go_ret
  exact ⟨a1, l1, rfl, n1, v1, b1⟩

end Go.Proofs.YgcsafGreat
