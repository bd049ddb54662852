/-
  'reaches' (64); a script's step, plain.
-/
import Derived.Test.YgcsafAns
namespace Go.Proofs.Ygcsaf
open Go.RowKit
set_option linter.unusedVariables false
set_option linter.unusedSimpArgs false

/-- An MOp's cells. -/
def opC (k a b n f : Nat) : List Value := [.int .u8 (k : Int), .int .u32 (a : Int), .int .u32 (b : Int), .int .u32 (n : Int), .int .u8 (f : Int)]

def reachB (k a b n size : Nat) : Bool := match k with
  | 4 => decide (a + 32 ≤ size)
  | 5 => decide (a + 32 ≤ size)
  | 6 => decide (a + 1 ≤ size)
  | 7 => decide (a + n ≤ size) && decide (b + n ≤ size)
  | 9 => decide (a + n ≤ size)
  | _ => false

theorem Safg.size49 : (Safg.prog.info? 49).map (·.size) = some 5 := by kernel_rfl

set_option maxRecDepth 100000 in
set_option maxHeartbeats 2000000 in
theorem reaches_any (w : World) (k a b n f size : Nat) (hk : k = 4 ∨ k = 5 ∨ k = 6 ∨ k = 7 ∨ k = 9) (ha : a < 4294967296) (hb : b < 4294967296) (hn : n < 4294967296) (hs : size < 4294967296) :
    Calls Safg.prog 64 #[.agg (opC k a b n f).toArray, .int .u64 (size : Int)] w fun e w' => e = .returned (.bool (reachB k a b n size)) ∧ Below w.heap.size w w' := by
  go_enter Safg.func64, Safg.ntmps64
  go_upto_region 1 with (refine wpList_box_agg rfl 49 _ rfl (opC k a b n f) rfl ?_; intro w1 g1 hg1 k1 b1)
  have c0 := k1.get (j := 0) (v := .int .u8 (k : Int)) rfl
  have c1 := k1.get (j := 1) (v := .int .u32 (a : Int)) rfl
  have c2 := k1.get (j := 2) (v := .int .u32 (b : Int)) rfl
  have c3 := k1.get (j := 3) (v := .int .u32 (n : Int)) rfl
  have HA := within_any w1 a 32 size ha (by omega) hs
  have HB := within_any w1 a 1 size ha (by omega) hs
  have HC := within_any w1 a n size ha hn hs
  have HD := within_any w1 b n size hb hn hs
  clear k1
  rcases hk with rfl | rfl | rfl | rfl | rfl
  · go_wp2_with (go_at_call 63; refine HA.mono ?_; rintro e w2 ⟨rfl, hw⟩; subst hw)
    go_ret
    exact ⟨rfl, b1⟩
  · go_wp2_with (go_at_call 63; refine HA.mono ?_; rintro e w2 ⟨rfl, hw⟩; subst hw)
    go_ret
    exact ⟨rfl, b1⟩
  · go_wp2_with (go_at_call 63; refine HB.mono ?_; rintro e w2 ⟨rfl, hw⟩; subst hw)
    go_ret
    exact ⟨rfl, b1⟩
  · obtain ⟨p, HP⟩ : ∃ p, Hid (decide (a + n ≤ size) = p) := ⟨_, rfl⟩
    obtain ⟨q, HQ⟩ : ∃ q, Hid (decide (b + n ≤ size) = q) := ⟨_, rfl⟩
    have HR : Hid (reachB 7 a b n size = (p && q)) := by show _ = _; rw [← HP.out, ← HQ.out]; rfl
    rw [HP.out] at HC
    rw [HQ.out] at HD
    cases p
    · go_wp2_with (go_at_call 63; refine HC.mono ?_; rintro e w2 ⟨rfl, hw⟩; subst hw)
      go_ret
      exact ⟨by rw [HR.out]; rfl, b1⟩
    · go_wp2_with fail
      refine HC.mono ?_
      rintro e w2 ⟨rfl, hw⟩
      subst hw
      go_wp2_with (go_at_call 63; refine HD.mono ?_; rintro e w3 ⟨rfl, hw⟩; subst hw)
      go_ret
      exact ⟨by rw [HR.out]; cases q <;> rfl, b1⟩
  · go_wp2_with (go_at_call 63; refine HC.mono ?_; rintro e w2 ⟨rfl, hw⟩; subst hw)
    go_ret
    exact ⟨rfl, b1⟩

/-- A step of the script, plain. -/
def stepOk (F : List (List Nat)) (k a b n : Nat) : Bool := match k with
  | 0 => decide (F.length < 7)
  | 1 => !F.isEmpty
  | 2 => growOk F a
  | 4 => hasF F a 32
  | 5 => hasF F a 32
  | 6 => hasF F a 1
  | 7 => hasF F a n && hasF F b n
  | 9 => hasF F a n
  | 10 => true
  | _ => false
def stepSize (F : List (List Nat)) (k : Nat) : Nat := match k with
  | 3 => (topF F).length
  | _ => 0
def stepWord (F : List (List Nat)) (k a : Nat) : List Nat := match k with
  | 4 => wordF F a
  | _ => List.replicate 32 0
def stepRead (F : List (List Nat)) (k a n : Nat) : List Nat := match k with
  | 8 => readF F a n
  | _ => []
def enterF (F : List (List Nat)) : List (List Nat) := if F.length < 7 then F ++ [[]] else F
def stepF (F : List (List Nat)) (k a b n f : Nat) : List (List Nat) := match k with
  | 0 => enterF F
  | 1 => F.dropLast
  | 2 => growF F a
  | 5 => putIf F a 32 (fillL 32 f)
  | 6 => putIf F a 1 [f]
  | 7 => moveF F a b n
  | 9 => putIf F a n (writeL (fillL 40 f) b n)
  | _ => F

/-- What an answer's slice of bytes is. -/
structure RdNew (B : Nat) (w : World) (ra : Option Addr) (r : List Nat) : Prop where
  rd : Rd w ra r.length r
  nil : r = [] → ra = none
  new : ∀ a, ra = some a → B ≤ a.block ∧ r ≠ []

theorem stepWord_length {F : List (List Nat)} {k a : Nat} : (stepWord F k a).length = 32 := by
  unfold stepWord
  split
  · by_cases h : hasF F a 32 = true
    · obtain ⟨G, t, rfl, hle⟩ := hasF_true h
      rw [wordF_yes h, topF_app, subL_length hle]
    · rw [wordF_no (by simpa using h)]; simp
  · simp
theorem stepWord_dig {F : List (List Nat)} {k a : Nat} (h : FOk F) : D.Dig (stepWord F k a) := by
  unfold stepWord
  split
  · by_cases h2 : hasF F a 32 = true
    · rw [wordF_yes h2]; exact subL_dig (topF_dig h)
    · rw [wordF_no (by simpa using h2)]; exact D.Dig.replicate _
  · exact D.Dig.replicate _
end Go.Proofs.Ygcsaf
