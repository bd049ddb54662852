/-
  'num.inside' (255), 'num.BE64' (178), 'num.PutBE64' (95), 'u256.FromBytes' (63), 'u256.Word.BE32' (30).
-/
import Derived.Test.YgcsafGreatDrawn
import Derived.Test.YgcsafGreatU64
namespace Go.Proofs.YgcsafGreat
open Go.RowKit
set_option linter.unusedVariables false
set_option linter.unusedSimpArgs false

set_option maxRecDepth 100000 in
set_option maxHeartbeats 1000000 in
theorem inside_any (w : World) (n off : Nat) (hn : n ≤ 281474976710656) (hoff : off + 8 ≤ n) :
    Calls Safg.prog 255 #[.int .i64 (n : Int), .int .i64 (off : Int)] w fun e w' => e = .returned (.bool true) ∧ w' = w := by
  have t1 : decide ((0 : Int) ≤ (off : Int)) = true := decide_eq_true (by omega)
  have t2 : decide ((8 : Int) ≤ (n : Int)) = true := decide_eq_true (by omega)
  have t3 : decide ((off : Int) ≤ (n : Int) - 8) = true := decide_eq_true (by omega)
  go_enter Safg.func255, Safg.ntmps255
  go_wp2
  go_ret
  exact ⟨rfl, rfl⟩

/-- Eight bytes, the greatest first. -/
def beV (L : List Nat) : Nat := L.getD 7 0 + 256 * (L.getD 6 0 + 256 * (L.getD 5 0 + 256 * (L.getD 4 0 + 256 * (L.getD 3 0 + 256 * (L.getD 2 0 + 256 * (L.getD 1 0 + 256 * L.getD 0 0))))))
theorem or_shift {x y s : Nat} (hx : x < 2 ^ s) (hs : s ≤ 56) (hy : y < 256) : bits .or .u64 (x : Int) ((y : Int) * 2 ^ s) = ((x + 2 ^ s * y : Nat) : Int) := by
  have hle : 2 ^ s ≤ 2 ^ 56 := Nat.pow_le_pow_right (by omega) hs
  have h2 : 2 ^ s * y ≤ 2 ^ 56 * 255 := Nat.mul_le_mul hle (by omega)
  have e : (y : Int) * 2 ^ s = ((2 ^ s * y : Nat) : Int) := by rw [Nat.mul_comm]; simp
  have c : (2 : Nat) ^ 56 = 72057594037927936 := rfl
  rw [e, u64_or_nat _ _ (by omega) (by omega)]
  congr 1
  rw [Nat.or_comm, ← Nat.two_pow_add_eq_or_of_lt hx, Nat.add_comm]

theorem or_chain {x0 x1 x2 x3 x4 x5 x6 x7 : Nat} (d0 : x0 < 256) (d1 : x1 < 256) (d2 : x2 < 256) (d3 : x3 < 256) (d4 : x4 < 256) (d5 : x5 < 256) (d6 : x6 < 256) (d7 : x7 < 256) :
    bits .or .u64 (bits .or .u64 (bits .or .u64 (bits .or .u64 (bits .or .u64 (bits .or .u64 (bits .or .u64 (x7 : Int) ((x6 : Int) * 256)) ((x5 : Int) * 65536)) ((x4 : Int) * 16777216)) ((x3 : Int) * 4294967296)) ((x2 : Int) * 1099511627776)) ((x1 : Int) * 281474976710656)) ((x0 : Int) * 72057594037927936)
      = ((x7 + 256 * (x6 + 256 * (x5 + 256 * (x4 + 256 * (x3 + 256 * (x2 + 256 * (x1 + 256 * x0)))))) : Nat) : Int) := by
  have e1 := or_shift (x := x7) (y := x6) (s := 8) (by omega) (by omega) d6
  rw [show (2 : Int) ^ 8 = 256 from rfl, show (2 : Nat) ^ 8 = 256 from rfl] at e1
  rw [e1]
  have e2 := or_shift (x := x7 + 256 * x6) (y := x5) (s := 16) (by omega) (by omega) d5
  rw [show (2 : Int) ^ 16 = 65536 from rfl, show (2 : Nat) ^ 16 = 65536 from rfl] at e2
  rw [e2]
  have e3 := or_shift (x := x7 + 256 * x6 + 65536 * x5) (y := x4) (s := 24) (by omega) (by omega) d4
  rw [show (2 : Int) ^ 24 = 16777216 from rfl, show (2 : Nat) ^ 24 = 16777216 from rfl] at e3
  rw [e3]
  have e4 := or_shift (x := x7 + 256 * x6 + 65536 * x5 + 16777216 * x4) (y := x3) (s := 32) (by omega) (by omega) d3
  rw [show (2 : Int) ^ 32 = 4294967296 from rfl, show (2 : Nat) ^ 32 = 4294967296 from rfl] at e4
  rw [e4]
  have e5 := or_shift (x := x7 + 256 * x6 + 65536 * x5 + 16777216 * x4 + 4294967296 * x3) (y := x2) (s := 40) (by omega) (by omega) d2
  rw [show (2 : Int) ^ 40 = 1099511627776 from rfl, show (2 : Nat) ^ 40 = 1099511627776 from rfl] at e5
  rw [e5]
  have e6 := or_shift (x := x7 + 256 * x6 + 65536 * x5 + 16777216 * x4 + 4294967296 * x3 + 1099511627776 * x2) (y := x1) (s := 48) (by omega) (by omega) d1
  rw [show (2 : Int) ^ 48 = 281474976710656 from rfl, show (2 : Nat) ^ 48 = 281474976710656 from rfl] at e6
  rw [e6]
  have e7 := or_shift (x := x7 + 256 * x6 + 65536 * x5 + 16777216 * x4 + 4294967296 * x3 + 1099511627776 * x2 + 281474976710656 * x1) (y := x0) (s := 56) (by omega) (by omega) d0
  rw [show (2 : Int) ^ 56 = 72057594037927936 from rfl, show (2 : Nat) ^ 56 = 72057594037927936 from rfl] at e7
  rw [e7]
  congr 1
  omega
theorem beV_lt {L : List Nat} (h : D.Dig L) : beV L < 18446744073709551616 := by
  have h0 := h.getD 0; have h1 := h.getD 1; have h2 := h.getD 2; have h3 := h.getD 3; have h4 := h.getD 4; have h5 := h.getD 5; have h6 := h.getD 6; have h7 := h.getD 7
  unfold beV
  omega
theorem ret_pair {x y : Int} {t : Bool} (h : x = y) : Ending.returned (.tuple #[.int .u64 x, .bool t]) = .returned (.tuple #[.int .u64 y, .bool t]) := by rw [h]

set_option maxRecDepth 100000 in
set_option maxHeartbeats 2000000 in
theorem be64_any (w : World) (g n off : Nat) (L : List Nat) (own : Own w g L) (hL : L.length = n) (dig : D.Dig L) (hn : n ≤ 65536) (hoff : off + 8 ≤ n) :
    Calls Safg.prog 178 #[.slice (some ⟨g, 0, none⟩) n n, .int .i64 (off : Int)] w fun e w' => e = .returned (.tuple #[.int .u64 (beV (L.drop off) : Int), .bool true]) ∧ Below w.heap.size w w' := by
  have HI := inside_any w n off (by omega) hoff
  have q1 : (off : Int) + 8 - (off : Int) = 8 := by omega
  have rng : w.rangeAt g off (cellsL ((L.drop off).take 8)) := fun j v hv => by
    obtain ⟨hj, rfl⟩ := cellsL_get _ j v hv
    have hj8 : j < 8 := by simp at hj; omega
    rw [own.cell (off + j) (by omega)]
    simp only [List.getD_eq_getElem?_getD, List.getElem?_take, if_pos hj8, List.getElem?_drop]
  have len8 : ((L.drop off).take 8).length = (List.replicate 8 0).length := by simp; omega
  have sz : (Safg.prog.info? 347).map (·.size) = some (cellsL ((L.drop off).take 8)).length := by rw [cellsL_length, len8]; exact Safg.size347
  have HV : Hid (∀ j, j < 8 → ((L.drop off).take 8).getD j 0 = (L.drop off).getD j 0) := fun j hj => D.getD_take hj
  have dig8 := (dig.drop off).take 8
  go_enter Safg.func178, Safg.ntmps178
  go_upto_region 4 with (first | (go_at_call 255; refine HI.mono ?_; rintro e w1 ⟨rfl, hw⟩; subst hw) | (refine wpList_arrayPtr rfl 347 _ rfl (some ⟨g, off, none⟩) (off + 8 - off) (n - off) 8 5 rfl Safg.underlying347 (by omega) ?_) | (refine wpList_load_mid rfl 347 (.tmp 17) rfl g off rfl _ _ rng Safg.underlying347 rfl sz ?_) | (refine wpList_alloc_arr rfl 347 rfl 8 Safg.zero347 ?_; intro w2 g6 hg6 o6 b6) | (refine wpList_store_arr rfl 347 _ _ rfl g6 rfl _ ((L.drop off).take 8) rfl o6 len8 Safg.size347 ?_; intro w3 o3 n3))
  have l8 : ((L.drop off).take 8).length = 8 := len8
  have c0 := o3.cell 0 (by omega)
  have c1 := o3.cell 1 (by omega)
  have c2 := o3.cell 2 (by omega)
  have c3 := o3.cell 3 (by omega)
  have c4 := o3.cell 4 (by omega)
  have c5 := o3.cell 5 (by omega)
  have c6 := o3.cell 6 (by omega)
  have c7 := o3.cell 7 (by omega)
  have d0 := dig8.getD 0
  have d1 := dig8.getD 1
  have d2 := dig8.getD 2
  have d3 := dig8.getD 3
  have d4 := dig8.getD 4
  have d5 := dig8.getD 5
  have d6 := dig8.getD 6
  have d7 := dig8.getD 7
  have HB : Hid (beV (L.drop off) = beV ((L.drop off).take 8)) := by
    show _ = _
    unfold beV
    rw [HV.out 0 (by omega), HV.out 1 (by omega), HV.out 2 (by omega), HV.out 3 (by omega), HV.out 4 (by omega), HV.out 5 (by omega), HV.out 6 (by omega), HV.out 7 (by omega)]
  have HB2 : Hid (beV ((L.drop off).take 8) = ((L.drop off).take 8).getD 7 0 + 256 * (((L.drop off).take 8).getD 6 0 + 256 * (((L.drop off).take 8).getD 5 0 + 256 * (((L.drop off).take 8).getD 4 0 + 256 * (((L.drop off).take 8).getD 3 0 + 256 * (((L.drop off).take 8).getD 2 0 + 256 * (((L.drop off).take 8).getD 1 0 + 256 * ((L.drop off).take 8).getD 0 0))))))) := rfl
  rw [← HB.out] at HB2
  generalize ((L.drop off).take 8).getD 0 0 = x0 at *
  generalize ((L.drop off).take 8).getD 1 0 = x1 at *
  generalize ((L.drop off).take 8).getD 2 0 = x2 at *
  generalize ((L.drop off).take 8).getD 3 0 = x3 at *
  generalize ((L.drop off).take 8).getD 4 0 = x4 at *
  generalize ((L.drop off).take 8).getD 5 0 = x5 at *
  generalize ((L.drop off).take 8).getD 6 0 = x6 at *
  generalize ((L.drop off).take 8).getD 7 0 = x7 at *
  clear HB HV dig8 rng sz len8 l8
  go_wp2
  go_ret2
  refine ⟨?_, b6.trans (n3.below hg6)⟩
  refine ret_pair ?_
  rw [or_chain d0 d1 d2 d3 d4 d5 d6 d7, HB2.out]

/-- The word of 32 bytes, the greatest first. -/
def wdOf (L : List Nat) : Wd4 := ⟨beV (L.drop 24), beV (L.drop 16), beV (L.drop 8), beV L⟩
theorem wdOf_ok {L : List Nat} (h : D.Dig L) : (wdOf L).Ok := ⟨beV_lt (h.drop _), beV_lt (h.drop _), beV_lt (h.drop _), beV_lt h⟩
set_option maxRecDepth 100000 in
set_option maxHeartbeats 2000000 in
theorem fromBytes_any (w : World) (L : List Nat) (hL : L.length = 32) (dig : D.Dig L) :
    Calls Safg.prog 63 #[arrV L] w fun e w' => e = .returned (wdOf L).v ∧ Below w.heap.size w w' := by
  have ok := wdOf_ok dig
  have HV : Hid ((wdOf L).v = .agg (Wd4.cells ⟨beV (L.drop 24), beV (L.drop 16), beV (L.drop 8), beV (L.drop 0)⟩).toArray) := rfl
  rw [HV.out]
  go_enter Safg.func63, Safg.ntmps63
  go_upto_region 1 with (first | (refine wpList_box_arr rfl 22 (.tmp 0) rfl L rfl ?_; intro w1 g1 hg1 o1 b1) | (refine wpList_alloc_agg rfl 65 rfl _ Safg.zero65 ?_; intro w2 g2 hg2 k2 c2))
  have o2 : Own w2 g1 L := o1.below c2 o1.lt
  have s1 := b1.size; have s2 := c2.size
  have l1 := o1.lt; have l2 := k2.lt
  have bb : Below w.heap.size w w2 := b1.trans (c2.mono s1)
  clear o1 b1 c2
  go_upto_region 2 with (go_at_call 178; refine (be64_any _ g1 32 0 L o2 hL dig (by omega) (by omega)).mono ?_; rintro e w3 ⟨rfl, b3⟩)
  have o3 := o2.below b3 o2.lt
  have k3 := k2.below b3 k2.lt
  go_upto_region 3 with (go_at_call 178; refine (be64_any _ g1 32 8 L o3 hL dig (by omega) (by omega)).mono ?_; rintro e w4 ⟨rfl, b4⟩)
  have o4 := o3.below b4 o3.lt
  have k4 := k3.below b4 k3.lt
  go_upto_region 4 with (go_at_call 178; refine (be64_any _ g1 32 16 L o4 hL dig (by omega) (by omega)).mono ?_; rintro e w5 ⟨rfl, b5⟩)
  have o5 := o4.below b5 o4.lt
  have k5 := k4.below b5 k4.lt
  go_upto_region 5 with (go_at_call 178; refine (be64_any _ g1 32 24 L o5 hL dig (by omega) (by omega)).mono ?_; rintro e w6 ⟨rfl, b6⟩)
  have k6 := k5.below b6 k5.lt
  have t3 := b3.size; have t4 := b4.size; have t5 := b5.size; have t6 := b6.size
  have bb2 : Below w.heap.size w w6 := bb.trans ((b3.mono bb.size).trans ((b4.mono (by omega)).trans ((b5.mono (by omega)).trans (b6.mono (by omega)))))
  go_wp2_with (refine wpList_store_agg rfl 65 _ _ rfl g2 rfl _ (Wd4.cells ⟨beV (L.drop 24), beV (L.drop 16), beV (L.drop 8), beV (L.drop 0)⟩) rfl k6 rfl Safg.size65 (Wd4.one _) ?_; intro w7 k7 n7)
  refine bodyPost_ret (results_cell1 Safg.results63 _ w7 g2 _ _ rfl k7 Safg.under65 rfl Safg.size65) rfl ⟨rfl, bb2.trans (n7.below (by omega))⟩
end Go.Proofs.YgcsafGreat
