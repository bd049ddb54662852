/-
  'Arena.Check3' (95), 'Check' (61): true of an arena in order.
-/
import Derived.Test.YgcsafCheck
import Derived.Deep.RegionHeld3
import Derived.Deep.DrawnRows
namespace Go.Proofs.Ygcsaf
open Go.RowKit
set_option linter.unusedVariables false
set_option linter.unusedSimpArgs false
attribute [local go_sem ↓] Go.wp_at_zero Go.wp_at_succ

theorem keepSame {w wc wn : World} {p q r : Addr} {x y z : Value} (hs : Same wc wn)
    (h : (wc.cell? p = some x ∧ wc.cell? q = some y ∧ wc.cell? r = some z) ∧ Same w wc) :
    (wn.cell? p = some x ∧ wn.cell? q = some y ∧ wn.cell? r = some z) ∧ Same w wn :=
  ⟨⟨(hs.cell p).trans h.1.1, (hs.cell q).trans h.1.2.1, (hs.cell r).trans h.1.2.2⟩, h.2.trans hs⟩
theorem Ar.same {B T : Nat} {w w' : World} {bv : Value} {buf base : List Nat} {top : Nat} (h : Ar B T w bv buf base top) (s : Same w w') : Ar B T w' bv buf base top :=
  h.turn (S := []) (Turn.of_same s.os s.tape s.output s.heap []) (by simp) (by simp)

set_option maxRecDepth 100000 in
set_option maxHeartbeats 8000000 in
theorem check3_true (w : World) (B T : Nat) (n cap : Nat) (ad : Option Addr) (buf base : List Nat) (top : Nat) (h : Ar B T w (.slice ad n cap) buf base top) (ok : ArOk buf base top) (hn : n = buf.length) :
    Calls Safg.prog 95 #[.pointer (some ⟨T, 0, none⟩)] w fun e w' => e = .returned (.bool true) ∧ Same w w' := by
  have ht := ok.top_le
  have c0 := h.c0
  have c9 := h.c9
  have l1 := ok.low top
  have hfit := ok.fits
  have hmost := ok.most
  rw [← hn] at hfit hmost
  have HN : Hid (n = buf.length) := hn
  clear hn
  obtain ⟨x, HX⟩ : ∃ x, Hid (base.getD top 0 = x) := ⟨_, rfl⟩
  have t1 : decide ((x : Int) ≤ (n : Int)) = true := decide_eq_true (by have := HX.out; omega)
  have t2 : decide ((n : Int) ≤ 5020960) = true := decide_eq_true (by omega)
  have hx : x < 4294967296 := by have := HX.out; omega
  have hxn : x ≤ n := by have := HX.out; omega
  clear hfit l1
  have cb := h.cb top (by omega)
  rw [HX.out] at cb
  have t3 : decide (IntKind.u64.wrap (x : Int) ≤ IntKind.u64.wrap (n : Int)) = true := decide_eq_true (by rw [IntKind.wrap_u64, IntKind.wrap_u64]; omega)
  have t4 : decide ((x : Int) ≤ IntKind.u64.wrap (n : Int)) = true := decide_eq_true (by rw [IntKind.wrap_u64]; omega)
  have t5 : decide (IntKind.u64.wrap (x : Int) ≤ (n : Int)) = true := decide_eq_true (by rw [IntKind.wrap_u64]; omega)
  obtain rfl | rfl | rfl | rfl | rfl | rfl | rfl | rfl : top = 0 ∨ top = 1 ∨ top = 2 ∨ top = 3 ∨ top = 4 ∨ top = 5 ∨ top = 6 ∨ top = 7 := by omega
  · go_enter Safg.func95, Safg.ntmps95
    go_upto_region 1 with fail
    go_region_held3 (fun w' => (w'.cell? ⟨T, 0, none⟩ = some (.slice ad n cap) ∧ w'.cell? ⟨T, 9, none⟩ = some (.int .u8 0) ∧ w'.cell? ⟨T, 1, none⟩ = some (.int .u32 (x : Int))) ∧ Same w w')
      (first | exact ⟨⟨c0, c9, cb⟩, Same.drew _⟩ | exact keepSame (by assumption) (by assumption))
      (first | (go_at_call_of 100 (Value.pointer (some ⟨T, 0, none⟩)); refine (check2_true _ B T _ buf base 0 (h.same (Same.drew _)) ok).mono ?_; rintro e w1 ⟨rfl, s1⟩))
    go_wp2
    go_ret
    exact ⟨rfl, (Same.drew _).trans s1⟩
  · go_enter Safg.func95, Safg.ntmps95
    go_upto_region 1 with fail
    go_region_held3 (fun w' => (w'.cell? ⟨T, 0, none⟩ = some (.slice ad n cap) ∧ w'.cell? ⟨T, 9, none⟩ = some (.int .u8 1) ∧ w'.cell? ⟨T, 2, none⟩ = some (.int .u32 (x : Int))) ∧ Same w w')
      (first | exact ⟨⟨c0, c9, cb⟩, Same.drew _⟩ | exact keepSame (by assumption) (by assumption))
      (first | (go_at_call_of 100 (Value.pointer (some ⟨T, 0, none⟩)); refine (check2_true _ B T _ buf base 1 (h.same (Same.drew _)) ok).mono ?_; rintro e w1 ⟨rfl, s1⟩))
    go_wp2
    go_ret
    exact ⟨rfl, (Same.drew _).trans s1⟩
  · go_enter Safg.func95, Safg.ntmps95
    go_upto_region 1 with fail
    go_region_held3 (fun w' => (w'.cell? ⟨T, 0, none⟩ = some (.slice ad n cap) ∧ w'.cell? ⟨T, 9, none⟩ = some (.int .u8 2) ∧ w'.cell? ⟨T, 3, none⟩ = some (.int .u32 (x : Int))) ∧ Same w w')
      (first | exact ⟨⟨c0, c9, cb⟩, Same.drew _⟩ | exact keepSame (by assumption) (by assumption))
      (first | (go_at_call_of 100 (Value.pointer (some ⟨T, 0, none⟩)); refine (check2_true _ B T _ buf base 2 (h.same (Same.drew _)) ok).mono ?_; rintro e w1 ⟨rfl, s1⟩))
    go_wp2
    go_ret
    exact ⟨rfl, (Same.drew _).trans s1⟩
  · go_enter Safg.func95, Safg.ntmps95
    go_upto_region 1 with fail
    go_region_held3 (fun w' => (w'.cell? ⟨T, 0, none⟩ = some (.slice ad n cap) ∧ w'.cell? ⟨T, 9, none⟩ = some (.int .u8 3) ∧ w'.cell? ⟨T, 4, none⟩ = some (.int .u32 (x : Int))) ∧ Same w w')
      (first | exact ⟨⟨c0, c9, cb⟩, Same.drew _⟩ | exact keepSame (by assumption) (by assumption))
      (first | (go_at_call_of 100 (Value.pointer (some ⟨T, 0, none⟩)); refine (check2_true _ B T _ buf base 3 (h.same (Same.drew _)) ok).mono ?_; rintro e w1 ⟨rfl, s1⟩))
    go_wp2
    go_ret
    exact ⟨rfl, (Same.drew _).trans s1⟩
  · go_enter Safg.func95, Safg.ntmps95
    go_upto_region 1 with fail
    go_region_held3 (fun w' => (w'.cell? ⟨T, 0, none⟩ = some (.slice ad n cap) ∧ w'.cell? ⟨T, 9, none⟩ = some (.int .u8 4) ∧ w'.cell? ⟨T, 5, none⟩ = some (.int .u32 (x : Int))) ∧ Same w w')
      (first | exact ⟨⟨c0, c9, cb⟩, Same.drew _⟩ | exact keepSame (by assumption) (by assumption))
      (first | (go_at_call_of 100 (Value.pointer (some ⟨T, 0, none⟩)); refine (check2_true _ B T _ buf base 4 (h.same (Same.drew _)) ok).mono ?_; rintro e w1 ⟨rfl, s1⟩))
    go_wp2
    go_ret
    exact ⟨rfl, (Same.drew _).trans s1⟩
  · go_enter Safg.func95, Safg.ntmps95
    go_upto_region 1 with fail
    go_region_held3 (fun w' => (w'.cell? ⟨T, 0, none⟩ = some (.slice ad n cap) ∧ w'.cell? ⟨T, 9, none⟩ = some (.int .u8 5) ∧ w'.cell? ⟨T, 6, none⟩ = some (.int .u32 (x : Int))) ∧ Same w w')
      (first | exact ⟨⟨c0, c9, cb⟩, Same.drew _⟩ | exact keepSame (by assumption) (by assumption))
      (first | (go_at_call_of 100 (Value.pointer (some ⟨T, 0, none⟩)); refine (check2_true _ B T _ buf base 5 (h.same (Same.drew _)) ok).mono ?_; rintro e w1 ⟨rfl, s1⟩))
    go_wp2
    go_ret
    exact ⟨rfl, (Same.drew _).trans s1⟩
  · go_enter Safg.func95, Safg.ntmps95
    go_upto_region 1 with fail
    go_region_held3 (fun w' => (w'.cell? ⟨T, 0, none⟩ = some (.slice ad n cap) ∧ w'.cell? ⟨T, 9, none⟩ = some (.int .u8 6) ∧ w'.cell? ⟨T, 7, none⟩ = some (.int .u32 (x : Int))) ∧ Same w w')
      (first | exact ⟨⟨c0, c9, cb⟩, Same.drew _⟩ | exact keepSame (by assumption) (by assumption))
      (first | (go_at_call_of 100 (Value.pointer (some ⟨T, 0, none⟩)); refine (check2_true _ B T _ buf base 6 (h.same (Same.drew _)) ok).mono ?_; rintro e w1 ⟨rfl, s1⟩))
    go_wp2
    go_ret
    exact ⟨rfl, (Same.drew _).trans s1⟩
  · go_enter Safg.func95, Safg.ntmps95
    go_upto_region 1 with fail
    go_region_held3 (fun w' => (w'.cell? ⟨T, 0, none⟩ = some (.slice ad n cap) ∧ w'.cell? ⟨T, 9, none⟩ = some (.int .u8 7) ∧ w'.cell? ⟨T, 8, none⟩ = some (.int .u32 (x : Int))) ∧ Same w w')
      (first | exact ⟨⟨c0, c9, cb⟩, Same.drew _⟩ | exact keepSame (by assumption) (by assumption))
      (first | (go_at_call_of 100 (Value.pointer (some ⟨T, 0, none⟩)); refine (check2_true _ B T _ buf base 7 (h.same (Same.drew _)) ok).mono ?_; rintro e w1 ⟨rfl, s1⟩))
    go_wp2
    go_ret
    exact ⟨rfl, (Same.drew _).trans s1⟩

theorem check_true (w : World) (B T : Nat) (n cap : Nat) (ad : Option Addr) (buf base : List Nat) (top : Nat) (h : Ar B T w (.slice ad n cap) buf base top) (ok : ArOk buf base top) (hn : n = buf.length) :
    Calls Safg.prog 61 #[.pointer (some ⟨T, 0, none⟩)] w fun e w' => e = .returned (.bool true) ∧ Same w w' := by
  go_enter Safg.func61, Safg.ntmps61
  go_wp2_with fail
  refine (check3_true w B T n cap ad buf base top h ok hn).mono ?_
  rintro e w1 ⟨rfl, s1⟩
  go_wp2
  go_ret
  exact ⟨rfl, s1⟩
end Go.Proofs.Ygcsaf
