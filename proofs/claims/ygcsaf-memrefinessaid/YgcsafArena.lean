/-
  'mem.Arena' in memory: what lies in its block, and what its reading methods answer.
-/
import Derived.Test.YgcsafTurn
import Derived.Deep.QuietTactic
import Derived.Test.YgcsafCmp
namespace Go.Proofs.Ygcsaf
open Go.RowKit
set_option linter.unusedVariables false
set_option linter.unusedSimpArgs false

def byteV (n : Nat) : Value := .int .u8 (n : Int)

/-- The arena's cells, at block T. -/
structure Ar (B T : Nat) (w : World) (bv : Value) (buf base : List Nat) (top : Nat) : Prop where
  lt : T < w.heap.size
  c0 : w.cell? ⟨T, 0, none⟩ = some bv
  cb : ∀ j, j < 8 → w.cell? ⟨T, 1 + j, none⟩ = some (.int .u32 ((base.getD j 0 : Nat) : Int))
  c9 : w.cell? ⟨T, 9, none⟩ = some (.int .u8 (top : Int))
  free : ∀ o, w.frozen? ⟨T, o, none⟩ = false
  vec : Vec B w bv (buf.map byteV)
  ne : bv.ownBlock ≠ some T

/-- The arena's plain invariant. -/
structure ArOk (buf base : List Nat) (top : Nat) : Prop where
  top_le : top ≤ 7
  zero : base.getD 0 0 = 0
  up : ∀ i, i < top → base.getD i 0 ≤ base.getD (i + 1) 0 ∧ (base.getD (i + 1) 0 - base.getD i 0) % 32 = 0 ∧ base.getD (i + 1) 0 - base.getD i 0 ≤ 717280
  fits : base.getD top 0 ≤ buf.length
  most : buf.length ≤ 5020960
  dig : D.Dig buf
  low : ∀ i, base.getD i 0 < 4294967296

theorem Ar.turn {S : List Nat} {B T : Nat} {w w' : World} {bv : Value} {buf base : List Nat} {top : Nat} (h : Ar B T w bv buf base top) (t : Turn S w w') (hT : T ∉ S) (hn : ∀ g, bv.ownBlock = some g → g ∉ S) : Ar B T w' bv buf base top :=
  ⟨Nat.lt_of_lt_of_le h.lt t.size, by rw [t.cell (p := ⟨T, 0, none⟩) h.lt hT]; exact h.c0, fun j hj => by rw [t.cell (p := ⟨T, 1 + j, none⟩) h.lt hT]; exact h.cb j hj,
    by rw [t.cell (p := ⟨T, 9, none⟩) h.lt hT]; exact h.c9, fun o => by rw [t.frozen (p := ⟨T, o, none⟩) h.lt hT]; exact h.free o, h.vec.turn t hn, h.ne⟩

set_option maxHeartbeats 1000000 in
theorem top_none (w : World) (B T : Nat) (bv : Value) (buf base : List Nat) (h : Ar B T w bv buf base 0) :
    Calls Safg.prog 93 #[.pointer (some ⟨T, 0, none⟩)] w fun e w' => e = .returned (.tuple #[.slice none 0 0, .bool false]) ∧ w' = w := by
  have c9 := h.c9
  go_enter Safg.func93, Safg.ntmps93
  go_wp2
  go_ret2
  exact ⟨rfl, rfl⟩

set_option maxRecDepth 100000 in
set_option maxHeartbeats 1000000 in
theorem top_some (w : World) (B T : Nat) (bv : Value) (buf base : List Nat) (k : Nat) (h : Ar B T w bv buf base (k + 1)) (ok : ArOk buf base (k + 1)) (lo hi : Nat) (hlo : base.getD k 0 = lo) (hhi : base.getD (k + 1) 0 = hi) :
    Calls Safg.prog 93 #[.pointer (some ⟨T, 0, none⟩)] w fun e w' => ∃ ad, e = .returned (.tuple #[.slice ad (hi - lo) (hi - lo), .bool true]) ∧ (0 < hi - lo → ∃ g, bv.ownBlock = some g ∧ ad = some ⟨g, lo, none⟩) ∧ Same w w' := by
  have c9 := h.c9
  have hk := ok.top_le
  have ca := h.cb k (by omega)
  have cb := h.cb (k + 1) (by omega)
  rw [hlo] at ca
  rw [hhi] at cb
  have h4 : lo < 4294967296 := by rw [← hlo]; exact ok.low k
  have h5 : hi < 4294967296 := by rw [← hhi]; exact ok.low (k + 1)
  have hup : lo ≤ hi := by rw [← hlo, ← hhi]; exact (ok.up k (by omega)).1
  have hfit : hi ≤ buf.length := by rw [← hhi]; exact ok.fits
  have hmost := ok.most
  have c0 := h.c0
  have hvec := h.vec
  have t1 : decide ((hi : Int) < (lo : Int)) = false := decide_eq_false (by omega)
  clear h ok hlo hhi
  rcases hvec with ⟨rfl, hb⟩ | ⟨g, cap, rfl, hB, r, hcm⟩
  · have hbl : buf.length = 0 := by have := congrArg List.length hb; simpa using this
    obtain rfl : hi = 0 := by omega
    obtain rfl : lo = 0 := by omega
    clear hb
    obtain rfl | rfl | rfl | rfl | rfl | rfl | rfl : k = 0 ∨ k = 1 ∨ k = 2 ∨ k = 3 ∨ k = 4 ∨ k = 5 ∨ k = 6 := by omega
    all_goals (
      go_enter Safg.func93, Safg.ntmps93
      go_upto_region 3 with fail
      go_quiet (fail)
      go_upto_region 4 with fail
      go_quiet (fail)
      go_wp2_with fail
      go_ret2
      exact ⟨none, rfl, fun h => absurd h (by omega), Same.drewN _ _⟩)
  · have hbl : (buf.map byteV).length = buf.length := by simp
    have hle := r.le
    have hml : maxLen = 9223372036854775807 := rfl
    rw [hbl] at hle c0
    have t2 : decide ((buf.length : Int) < (hi : Int)) = false := decide_eq_false (by omega)
    obtain rfl | rfl | rfl | rfl | rfl | rfl | rfl : k = 0 ∨ k = 1 ∨ k = 2 ∨ k = 3 ∨ k = 4 ∨ k = 5 ∨ k = 6 := by omega
    all_goals (
      go_enter Safg.func93, Safg.ntmps93
      go_upto_region 3 with fail
      go_quiet (fail)
      go_upto_region 4 with fail
      go_quiet (fail)
      go_wp2_with fail
      · go_ret2
        exact ⟨⟨_, rfl⟩, Same.drewN _ _⟩
      · go_ret2
        exact ⟨_, rfl, fun _ => ⟨g, rfl, rfl⟩, Same.drewN _ _⟩)
end Go.Proofs.Ygcsaf
