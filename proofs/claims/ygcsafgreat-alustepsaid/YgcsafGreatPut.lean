/-
  'num.PutBE64' (95), 'u256.Word.BE32' (30).
-/
import Derived.Test.YgcsafGreatBE64
import Derived.Test.YgcsafGreatBE32
namespace Go.Proofs.YgcsafGreat
open Go.RowKit
set_option linter.unusedVariables false
set_option linter.unusedSimpArgs false

/-- Eight bytes of x laid at off. -/
def putL (L : List Nat) (off x : Nat) : List Nat :=
  (((((((L.set off (x / 72057594037927936 % 256)).set (off + 1) (x / 281474976710656 % 256)).set (off + 2) (x / 1099511627776 % 256)).set (off + 3) (x / 4294967296 % 256)).set (off + 4) (x / 16777216 % 256)).set (off + 5) (x / 65536 % 256)).set (off + 6) (x / 256 % 256)).set (off + 7) (x % 256)
theorem putL_length (L : List Nat) (off x : Nat) : (putL L off x).length = L.length := by simp [putL]
theorem putL_dig {L : List Nat} (h : D.Dig L) (off x : Nat) : D.Dig (putL L off x) :=
  (((((((h.set _ (Nat.mod_lt _ (by omega))).set _ (Nat.mod_lt _ (by omega))).set _ (Nat.mod_lt _ (by omega))).set _ (Nat.mod_lt _ (by omega))).set _ (Nat.mod_lt _ (by omega))).set _ (Nat.mod_lt _ (by omega))).set _ (Nat.mod_lt _ (by omega))).set _ (Nat.mod_lt _ (by omega))

set_option maxRecDepth 100000 in
set_option maxHeartbeats 2000000 in
theorem putBE64_any (w : World) (g n off x : Nat) (L : List Nat) (own : Own w g L) (hL : L.length = n) (hn : n ≤ 65536) (hoff : off + 8 ≤ n) (hx : x < 18446744073709551616) :
    Calls Safg.prog 95 #[.slice (some ⟨g, 0, none⟩) n n, .int .i64 (off : Int), .int .u64 (x : Int)] w fun e w' => e = .returned (.bool true) ∧ Own w' g (putL L off x) ∧ Only g w w' := by
  have HI := inside_any w n off (by omega) hoff
  have only : Only g w w := Only.refl _ _
  obtain ⟨u0, hu0⟩ : ∃ u, x / 72057594037927936 = u := ⟨_, rfl⟩
  have p0 : (x : Int) / 72057594037927936 = (u0 : Int) := by omega
  obtain ⟨v0, hv0⟩ : ∃ v, u0 % 256 = v := ⟨_, rfl⟩
  have m0 : (u0 : Int) % 256 = (v0 : Int) := by omega
  have HV0 : Hid (x / 72057594037927936 % 256 = v0) := by show _ = _; rw [hu0, hv0]
  have hw0 : v0 < 256 := by omega
  clear hu0 hv0
  obtain ⟨u1, hu1⟩ : ∃ u, x / 281474976710656 = u := ⟨_, rfl⟩
  have p1 : (x : Int) / 281474976710656 = (u1 : Int) := by omega
  obtain ⟨v1, hv1⟩ : ∃ v, u1 % 256 = v := ⟨_, rfl⟩
  have m1 : (u1 : Int) % 256 = (v1 : Int) := by omega
  have HV1 : Hid (x / 281474976710656 % 256 = v1) := by show _ = _; rw [hu1, hv1]
  have hw1 : v1 < 256 := by omega
  clear hu1 hv1
  obtain ⟨u2, hu2⟩ : ∃ u, x / 1099511627776 = u := ⟨_, rfl⟩
  have p2 : (x : Int) / 1099511627776 = (u2 : Int) := by omega
  obtain ⟨v2, hv2⟩ : ∃ v, u2 % 256 = v := ⟨_, rfl⟩
  have m2 : (u2 : Int) % 256 = (v2 : Int) := by omega
  have HV2 : Hid (x / 1099511627776 % 256 = v2) := by show _ = _; rw [hu2, hv2]
  have hw2 : v2 < 256 := by omega
  clear hu2 hv2
  obtain ⟨u3, hu3⟩ : ∃ u, x / 4294967296 = u := ⟨_, rfl⟩
  have p3 : (x : Int) / 4294967296 = (u3 : Int) := by omega
  obtain ⟨v3, hv3⟩ : ∃ v, u3 % 256 = v := ⟨_, rfl⟩
  have m3 : (u3 : Int) % 256 = (v3 : Int) := by omega
  have HV3 : Hid (x / 4294967296 % 256 = v3) := by show _ = _; rw [hu3, hv3]
  have hw3 : v3 < 256 := by omega
  clear hu3 hv3
  obtain ⟨u4, hu4⟩ : ∃ u, x / 16777216 = u := ⟨_, rfl⟩
  have p4 : (x : Int) / 16777216 = (u4 : Int) := by omega
  obtain ⟨v4, hv4⟩ : ∃ v, u4 % 256 = v := ⟨_, rfl⟩
  have m4 : (u4 : Int) % 256 = (v4 : Int) := by omega
  have HV4 : Hid (x / 16777216 % 256 = v4) := by show _ = _; rw [hu4, hv4]
  have hw4 : v4 < 256 := by omega
  clear hu4 hv4
  obtain ⟨u5, hu5⟩ : ∃ u, x / 65536 = u := ⟨_, rfl⟩
  have p5 : (x : Int) / 65536 = (u5 : Int) := by omega
  obtain ⟨v5, hv5⟩ : ∃ v, u5 % 256 = v := ⟨_, rfl⟩
  have m5 : (u5 : Int) % 256 = (v5 : Int) := by omega
  have HV5 : Hid (x / 65536 % 256 = v5) := by show _ = _; rw [hu5, hv5]
  have hw5 : v5 < 256 := by omega
  clear hu5 hv5
  obtain ⟨u6, hu6⟩ : ∃ u, x / 256 = u := ⟨_, rfl⟩
  have p6 : (x : Int) / 256 = (u6 : Int) := by omega
  obtain ⟨v6, hv6⟩ : ∃ v, u6 % 256 = v := ⟨_, rfl⟩
  have m6 : (u6 : Int) % 256 = (v6 : Int) := by omega
  have HV6 : Hid (x / 256 % 256 = v6) := by show _ = _; rw [hu6, hv6]
  have hw6 : v6 < 256 := by omega
  clear hu6 hv6
  obtain ⟨v7, hv7⟩ : ∃ v, x % 256 = v := ⟨_, rfl⟩
  have m7 : (x : Int) % 256 = (v7 : Int) := by omega
  have HV7 : Hid (x % 256 = v7) := hv7
  have hw7 : v7 < 256 := by omega
  clear hv7
  go_enter Safg.func95, Safg.ntmps95
  go_upto_region 4 with (first | (go_at_call 255; refine HI.mono ?_; rintro e w1 ⟨rfl, hw⟩; subst hw) | (refine wpList_arrayPtr rfl 347 _ rfl (some ⟨g, off, none⟩) (off + 8 - off) (n - off) 8 5 rfl Safg.underlying347 (by omega) ?_))
  have c0 := own.cell (off) (by omega)
  generalize L.getD (off) 0 = y0 at c0
  have f0 := own.free (off)
  have c1 := own.cell (off + 1) (by omega)
  generalize L.getD (off + 1) 0 = y1 at c1
  have f1 := own.free (off + 1)
  have c2 := own.cell (off + 2) (by omega)
  generalize L.getD (off + 2) 0 = y2 at c2
  have f2 := own.free (off + 2)
  have c3 := own.cell (off + 3) (by omega)
  generalize L.getD (off + 3) 0 = y3 at c3
  have f3 := own.free (off + 3)
  have c4 := own.cell (off + 4) (by omega)
  generalize L.getD (off + 4) 0 = y4 at c4
  have f4 := own.free (off + 4)
  have c5 := own.cell (off + 5) (by omega)
  generalize L.getD (off + 5) 0 = y5 at c5
  have f5 := own.free (off + 5)
  have c6 := own.cell (off + 6) (by omega)
  generalize L.getD (off + 6) 0 = y6 at c6
  have f6 := own.free (off + 6)
  have c7 := own.cell (off + 7) (by omega)
  generalize L.getD (off + 7) 0 = y7 at c7
  have f7 := own.free (off + 7)
  clear HI
  go_wp2
  go_ret
  refine ⟨rfl, ?_, (((((((((Only.refl g w1).setCell (off) _).setCell (off + 1) _).setCell (off + 2) _).setCell (off + 3) _).setCell (off + 4) _).setCell (off + 5) _).setCell (off + 6) _).setCell (off + 7) _)⟩
  unfold putL
  rw [HV0.out, HV1.out, HV2.out, HV3.out, HV4.out, HV5.out, HV6.out, HV7.out]
  exact ((((((((own.setI (k := off) (by omega) v0 (by omega)).setI (k := off + 1) (by simp only [List.length_set]; omega) v1 (by omega)).setI (k := off + 2) (by simp only [List.length_set]; omega) v2 (by omega)).setI (k := off + 3) (by simp only [List.length_set]; omega) v3 (by omega)).setI (k := off + 4) (by simp only [List.length_set]; omega) v4 (by omega)).setI (k := off + 5) (by simp only [List.length_set]; omega) v5 (by omega)).setI (k := off + 6) (by simp only [List.length_set]; omega) v6 (by omega)).setI (k := off + 7) (by simp only [List.length_set]; omega) v7 (by omega))
end Go.Proofs.YgcsafGreat
