/-
  'vault.fold' (368), 'vault.acctHome' (309).
-/
import Derived.Test.YgcsafGreatBE64
import Derived.Test.YgcsafGreatNum
namespace Go.Proofs.YgcsafGreat
open Go.RowKit
set_option linter.unusedVariables false
set_option linter.unusedSimpArgs false

def foldN (h x : Nat) : Nat := ((h ^^^ x) * 11400714819323198485 / 18446744073709551616) ^^^ ((h ^^^ x) * 11400714819323198485 % 18446744073709551616)
theorem foldN_lt {h x : Nat} (hh : h < 18446744073709551616) (hx : x < 18446744073709551616) : foldN h x < 18446744073709551616 := by
  have h1 := xor_lt hh hx
  unfold foldN
  refine xor_lt ?_ (Nat.mod_lt _ (by omega))
  rw [Nat.div_lt_iff_lt_mul (by omega)]
  exact Nat.mul_lt_mul_of_lt_of_le h1 (by omega) (by omega)
/-- Where probing for an address begins. -/
def homeN (A : List Nat) : Nat := foldN (foldN (foldN (foldN 2611923443488327891 (beV A)) (beV (A.drop 8))) (beV (A.drop 12))) 1376283091369227076 % 4096

set_option maxRecDepth 100000 in
set_option maxHeartbeats 1000000 in
theorem fold_any (w : World) (h x : Nat) (hh : h < 18446744073709551616) (hx : x < 18446744073709551616) :
    Calls Safg.prog 368 #[.int .u64 (h : Int), .int .u64 (x : Int)] w fun e w' => e = .returned (.int .u64 (foldN h x : Int)) ∧ w' = w := by
  have o1 := u64_xor_nat h x hh hx
  have l1 := xor_lt hh hx
  have HF : Hid (foldN h x = ((h ^^^ x) * 11400714819323198485 / 18446744073709551616) ^^^ ((h ^^^ x) * 11400714819323198485 % 18446744073709551616)) := rfl
  obtain ⟨y, HY⟩ : ∃ y, Hid (h ^^^ x = y) := ⟨_, rfl⟩
  rw [HY.out] at o1 l1 HF
  have HM := Mul64_any w y 11400714819323198485 l1 (by omega)
  have hlo : y * 11400714819323198485 % 18446744073709551616 < 18446744073709551616 := Nat.mod_lt _ (by omega)
  have hhi : y * 11400714819323198485 / 18446744073709551616 < 18446744073709551616 := by
    rw [Nat.div_lt_iff_lt_mul (by omega)]
    exact Nat.mul_lt_mul_of_lt_of_le l1 (by omega) (by omega)
  generalize y * 11400714819323198485 % 18446744073709551616 = lo at *
  generalize y * 11400714819323198485 / 18446744073709551616 = hi at *
  have o2 := u64_xor_nat hi lo hhi hlo
  rw [← HF.out] at o2
  generalize foldN h x = z at *
  go_enter Safg.func368, Safg.ntmps368
  go_wp2_with (go_at_call 169; refine HM.mono ?_; rintro e w1 ⟨rfl, hw⟩; subst hw)
  go_ret
  exact ⟨rfl, rfl⟩

theorem Safg.size33 : (Safg.prog.info? 33).map (·.size) = some 20 := by kernel_rfl
theorem Safg.under33 : Safg.prog.underlying 33 = some (.array 20 5) := by kernel_rfl

set_option maxRecDepth 100000 in
set_option maxHeartbeats 2000000 in
theorem acctHome_any (w : World) (A : List Nat) (hA : A.length = 20) (dig : D.Dig A) :
    Calls Safg.prog 309 #[arrV A] w fun e w' => e = .returned (.int .u32 (homeN A : Int)) ∧ Below w.heap.size w w' := by
  have l0 := beV_lt dig
  have l8 := beV_lt (dig.drop 8)
  have l12 := beV_lt (dig.drop 12)
  have d0 : A.drop 0 = A := rfl
  have HH : Hid (homeN A = foldN (foldN (foldN (foldN 2611923443488327891 (beV A)) (beV (A.drop 8))) (beV (A.drop 12))) 1376283091369227076 % 4096) := rfl
  have C0 := fun (w : World) (g : Nat) (o : Own w g A) => be64_any w g 20 0 A o hA dig (by omega) (by omega)
  have C8 := fun (w : World) (g : Nat) (o : Own w g A) => be64_any w g 20 8 A o hA dig (by omega) (by omega)
  have C12 := fun (w : World) (g : Nat) (o : Own w g A) => be64_any w g 20 12 A o hA dig (by omega) (by omega)
  rw [show A.drop 0 = A from rfl] at C0
  have f1 := foldN_lt (h := 2611923443488327891) (by omega) l0
  have F1 := fun w => fold_any w 2611923443488327891 (beV A) (by omega) l0
  generalize foldN 2611923443488327891 (beV A) = h1 at *
  have f2 := foldN_lt f1 l8
  have F2 := fun w => fold_any w h1 (beV (A.drop 8)) f1 l8
  generalize foldN h1 (beV (A.drop 8)) = h2 at *
  have f3 := foldN_lt f2 l12
  have F3 := fun w => fold_any w h2 (beV (A.drop 12)) f2 l12
  generalize foldN h2 (beV (A.drop 12)) = h3 at *
  have F4 := fun w => fold_any w h3 1376283091369227076 f3 (by omega)
  have f4 := foldN_lt f3 (show 1376283091369227076 < 18446744073709551616 by omega)
  generalize foldN h3 1376283091369227076 = h4 at *
  generalize beV A = x0 at *
  generalize beV (A.drop 8) = x8 at *
  generalize beV (A.drop 12) = x12 at *
  generalize homeN A = z at *
  have q1 : (h4 : Int) % 4096 = (z : Int) := by rw [HH.out]; omega
  have hz : z < 4096 := by rw [HH.out]; omega
  clear d0
  go_enter Safg.func309, Safg.ntmps309
  go_wp2_with (first | (refine wpList_box_arr rfl 33 (.tmp 0) rfl A rfl ?_; intro w1 g1 hg1 o1 b1) | (go_at_call 178; first | ((fail_if_success (revert b2)); refine (C0 _ g1 o1).mono ?_; rintro e w2 ⟨rfl, b2⟩; have o2 := o1.below b2 o1.lt) | ((fail_if_success (revert b3)); refine (C8 _ g1 o2).mono ?_; rintro e w3 ⟨rfl, b3⟩; have o3 := o2.below b3 o2.lt) | (refine (C12 _ g1 o3).mono ?_; rintro e w4 ⟨rfl, b4⟩)) | (go_at_call 368; first | ((fail_if_success (revert tA)); refine (F1 _).mono ?_; rintro e w5 ⟨rfl, hw⟩; subst hw; have tA : True := trivial) | ((fail_if_success (revert tB)); refine (F2 _).mono ?_; rintro e w5 ⟨rfl, hw⟩; subst hw; have tB : True := trivial) | ((fail_if_success (revert tC)); refine (F3 _).mono ?_; rintro e w5 ⟨rfl, hw⟩; subst hw; have tC : True := trivial) | (refine (F4 _).mono ?_; rintro e w5 ⟨rfl, hw⟩; subst hw)))
  go_ret
  have s1 := b1.size; have s2 := b2.size; have s3 := b3.size
  exact ⟨rfl, b1.trans ((b2.mono s1).trans ((b3.mono (by omega)).trans (b4.mono (by omega))))⟩
end Go.Proofs.YgcsafGreat
