/-
  'u256.DivMid' (407), 'u256.Round' (397), where the invariant holds.
-/
import Derived.Test.YgcsafGreatMid
namespace Go.Proofs.YgcsafGreat
open Go.RowKit
set_option linter.unusedVariables false
set_option linter.unusedSimpArgs false

/-- A guarded operation whose guard lets it by is taken like a plain one. -/
theorem wpList_unguard {P : Program} {ops : Array Oper} {rest : List Oper} {o : Oper} {a : Act} {w : World} {Q : Exit → Act → World → Prop} (hw : Region.wanted o (yielded ops a.tmps) = true)
    (h : wpList P ops Q ({ o with guard := none } :: rest) a w) : wpList P ops Q (o :: rest) a w := by
  unfold wpList at h ⊢
  rw [if_pos hw]
  rw [if_pos (by simp [Region.wanted])] at h
  exact h

def Wd4.l (a : Wd4) : List Nat := [a.x0, a.x1, a.x2, a.x3]
theorem Wd4.lim {a : Wd4} (h : a.Ok) : Lim a.l := by
  intro x hx
  simp only [Wd4.l, List.mem_cons, List.not_mem_nil, or_false] at hx
  rcases hx with rfl | rfl | rfl | rfl
  · exact h.h0
  · exact h.h1
  · exact h.h2
  · exact h.h3

set_option maxRecDepth 100000 in
set_option maxHeartbeats 4000000 in
theorem divMid_any (w : World) (g h j n : Nat) (U : List Nat) (v : Wd4) (hv : v.Ok) (hU : OwnU w g U) (hV : OwnU w h v.l) (lU : Lim U) (u9 : U.length = 9) (hn : 2 ≤ n) (hn4 : n ≤ 4) (hj : j + n ≤ 8) (hm : Mid U v.l j n) (hz : ∀ i, j + n < i → U.getD i 0 = 0) (hl : IsLimbs v.l n) :
    Calls Safg.prog 407 #[.pointer (some ⟨g, 0, none⟩), .pointer (some ⟨h, 0, none⟩), .int .u8 (n : Int), .int .u8 (j : Int)] w fun e w' => e = .returned (.bool true) ∧ Below w.heap.size w w' := by
  have kv : Blk w h v.cells := hV.blk
  have t1 : decide ((n : Int) < 2) = false := decide_eq_false (by omega)
  have t2 : decide ((4 : Int) < (n : Int)) = false := decide_eq_false (by omega)
  have t3 : decide ((8 : Int) - (n : Int) < (j : Int)) = false := decide_eq_false (by omega)
  have hhlt := hV.lt
  have hglt := hU.lt
  go_enter Safg.func407, Safg.ntmps407
  go_upto_region 3 with (first | (refine wpList_unguard rfl ?_; refine wpList_load_mid rfl 65 (.tmp 31) rfl h 0 rfl _ _ kv.cell Safg.under65 rfl Safg.size65 ?_) | (go_at_call 187; refine (limbs_any _ v hv).mono ?_; rintro e w1 ⟨n', hn', isl, rfl, b1⟩; obtain rfl := IsLimbs.unique isl hl))
  have hU1 := (hU.below b1 hglt).same (Same.drew w1)
  have hV1 := (hV.below b1 hhlt).same (Same.drew w1)
  go_region_held3 (fun w' => True) (first | exact trivial) (first | (go_at_call 403; refine (midHolds_any _ g h j n' 9 4 U v.l hU1 hV1 lU (Wd4.lim hv) u9 rfl (by omega) hn4 hj hm hz).mono ?_; rintro e w2 ⟨rfl, s2⟩))
  go_wp2
  go_ret
  exact ⟨rfl, b1.trans (((Same.drew w1).trans s2).below _)⟩

theorem RoundPost.of_same {w w1 : World} {g o n : Nat} {U V : List Nat} {e : Ending} {w' : World} (s : Same w w1) (h : RoundPost w1 g o n U V e w') : RoundPost w g o n U V e w' := by
  obtain ⟨U', a, b, c, d⟩ := h
  exact ⟨U', a, b, (s.only g).trans c, d⟩

set_option maxRecDepth 100000 in
set_option maxHeartbeats 4000000 in
theorem Round_2 (w : World) (g h j : Nat) (U : List Nat) (v : Wd4) (hv : v.Ok) (hgh : h ≠ g) (hU : OwnU w g U) (hV : OwnU w h v.l) (lU : Lim U) (u9 : U.length = 9) (hj : j + 2 ≤ 8) (hm : Mid U v.l j 2) (hz : ∀ i, j + 2 < i → U.getD i 0 = 0) (hl : IsLimbs v.l 2) :
    Calls Safg.prog 397 #[.pointer (some ⟨g, 0, none⟩), .pointer (some ⟨h, 0, none⟩), .int .u8 2, .int .u8 (j : Int)] w fun e w' => ∃ w1, Below w.heap.size w w1 ∧ RoundPost w1 g j 2 U v.l e w' := by
  have hhlt := hV.lt
  have hglt := hU.lt
  have z1 : IntKind.u8.wrap ((j : Int) + 2) = (j : Int) + 2 := by rw [IntKind.wrap_u8]; omega
  have z2 : IntKind.u8.wrap ((j : Int) + 2 + 1) = (j : Int) + 3 := by rw [IntKind.wrap_u8]; omega
  have z3 : IntKind.u8.wrap (IntKind.u8.wrap ((j : Int) + 2) + 1) = (j : Int) + 3 := by rw [z1, z2]
  have z4 : (0 : Int) ≤ (j : Int) := by omega
  have z5 : (j : Int) + 3 ≤ 9 := by omega
  have z6 : (j : Int) ≤ (j : Int) + 3 := by omega
  have ZT : Hid (((j : Int) + 3).toNat = j + 3) := by show _ = _; omega
  have ZN : Hid (¬ (j + 3 = j)) := by show ¬ _; omega
  have ZS : Hid (j + 3 - j = 3) := by show _ = _; omega
  have H := divMid_any w g h j 2 U v hv hU hV lU u9 (by omega) (by omega) hj hm hz hl
  go_enter Safg.func397, Safg.ntmps397
  go_upto_region 3 with (go_at_call 407; refine H.mono ?_; rintro e w1 ⟨rfl, b1⟩)
  have hU1 := (hU.below b1 hglt).same (Same.drew w1)
  have hV1 := (hV.below b1 hhlt).same (Same.drew w1)
  go_region_held3 (fun w' => True) (first | exact trivial) (first | (go_at_call 395; rw [ZT.out, if_neg ZN.out, ZS.out]; refine (round_2 _ g h j 3 2 U v.l hU1 hV1 hgh lU (Wd4.lim hv) (by omega) (by simp [Wd4.l]) hm).mono ?_; rintro e w2 hpost; obtain ⟨U', ⟨f, b, rfl⟩, own, only, rest⟩ := hpost))
  go_wp2
  go_ret3
  exact ⟨w1, b1, U', ⟨f, b, rfl⟩, own, ((Same.drew w1).only g).trans only, rest⟩

set_option maxRecDepth 100000 in
set_option maxHeartbeats 4000000 in
theorem Round_3 (w : World) (g h j : Nat) (U : List Nat) (v : Wd4) (hv : v.Ok) (hgh : h ≠ g) (hU : OwnU w g U) (hV : OwnU w h v.l) (lU : Lim U) (u9 : U.length = 9) (hj : j + 3 ≤ 8) (hm : Mid U v.l j 3) (hz : ∀ i, j + 3 < i → U.getD i 0 = 0) (hl : IsLimbs v.l 3) :
    Calls Safg.prog 397 #[.pointer (some ⟨g, 0, none⟩), .pointer (some ⟨h, 0, none⟩), .int .u8 3, .int .u8 (j : Int)] w fun e w' => ∃ w1, Below w.heap.size w w1 ∧ RoundPost w1 g j 3 U v.l e w' := by
  have hhlt := hV.lt
  have hglt := hU.lt
  have z1 : IntKind.u8.wrap ((j : Int) + 3) = (j : Int) + 3 := by rw [IntKind.wrap_u8]; omega
  have z2 : IntKind.u8.wrap ((j : Int) + 3 + 1) = (j : Int) + 4 := by rw [IntKind.wrap_u8]; omega
  have z3 : IntKind.u8.wrap (IntKind.u8.wrap ((j : Int) + 3) + 1) = (j : Int) + 4 := by rw [z1, z2]
  have z4 : (0 : Int) ≤ (j : Int) := by omega
  have z5 : (j : Int) + 4 ≤ 9 := by omega
  have z6 : (j : Int) ≤ (j : Int) + 4 := by omega
  have ZT : Hid (((j : Int) + 4).toNat = j + 4) := by show _ = _; omega
  have ZN : Hid (¬ (j + 4 = j)) := by show ¬ _; omega
  have ZS : Hid (j + 4 - j = 4) := by show _ = _; omega
  have H := divMid_any w g h j 3 U v hv hU hV lU u9 (by omega) (by omega) hj hm hz hl
  go_enter Safg.func397, Safg.ntmps397
  go_upto_region 3 with (go_at_call 407; refine H.mono ?_; rintro e w1 ⟨rfl, b1⟩)
  have hU1 := (hU.below b1 hglt).same (Same.drew w1)
  have hV1 := (hV.below b1 hhlt).same (Same.drew w1)
  go_region_held3 (fun w' => True) (first | exact trivial) (first | (go_at_call 395; rw [ZT.out, if_neg ZN.out, ZS.out]; refine (round_3 _ g h j 4 3 U v.l hU1 hV1 hgh lU (Wd4.lim hv) (by omega) (by simp [Wd4.l]) hm).mono ?_; rintro e w2 hpost; obtain ⟨U', ⟨f, b, rfl⟩, own, only, rest⟩ := hpost))
  go_wp2
  go_ret3
  exact ⟨w1, b1, U', ⟨f, b, rfl⟩, own, ((Same.drew w1).only g).trans only, rest⟩

set_option maxRecDepth 100000 in
set_option maxHeartbeats 4000000 in
theorem Round_4 (w : World) (g h j : Nat) (U : List Nat) (v : Wd4) (hv : v.Ok) (hgh : h ≠ g) (hU : OwnU w g U) (hV : OwnU w h v.l) (lU : Lim U) (u9 : U.length = 9) (hj : j + 4 ≤ 8) (hm : Mid U v.l j 4) (hz : ∀ i, j + 4 < i → U.getD i 0 = 0) (hl : IsLimbs v.l 4) :
    Calls Safg.prog 397 #[.pointer (some ⟨g, 0, none⟩), .pointer (some ⟨h, 0, none⟩), .int .u8 4, .int .u8 (j : Int)] w fun e w' => ∃ w1, Below w.heap.size w w1 ∧ RoundPost w1 g j 4 U v.l e w' := by
  have hhlt := hV.lt
  have hglt := hU.lt
  have z1 : IntKind.u8.wrap ((j : Int) + 4) = (j : Int) + 4 := by rw [IntKind.wrap_u8]; omega
  have z2 : IntKind.u8.wrap ((j : Int) + 4 + 1) = (j : Int) + 5 := by rw [IntKind.wrap_u8]; omega
  have z3 : IntKind.u8.wrap (IntKind.u8.wrap ((j : Int) + 4) + 1) = (j : Int) + 5 := by rw [z1, z2]
  have z4 : (0 : Int) ≤ (j : Int) := by omega
  have z5 : (j : Int) + 5 ≤ 9 := by omega
  have z6 : (j : Int) ≤ (j : Int) + 5 := by omega
  have ZT : Hid (((j : Int) + 5).toNat = j + 5) := by show _ = _; omega
  have ZN : Hid (¬ (j + 5 = j)) := by show ¬ _; omega
  have ZS : Hid (j + 5 - j = 5) := by show _ = _; omega
  have H := divMid_any w g h j 4 U v hv hU hV lU u9 (by omega) (by omega) hj hm hz hl
  go_enter Safg.func397, Safg.ntmps397
  go_upto_region 3 with (go_at_call 407; refine H.mono ?_; rintro e w1 ⟨rfl, b1⟩)
  have hU1 := (hU.below b1 hglt).same (Same.drew w1)
  have hV1 := (hV.below b1 hhlt).same (Same.drew w1)
  go_region_held3 (fun w' => True) (first | exact trivial) (first | (go_at_call 395; rw [ZT.out, if_neg ZN.out, ZS.out]; refine (round_4 _ g h j 5 4 U v.l hU1 hV1 hgh lU (Wd4.lim hv) (by omega) (by simp [Wd4.l]) hm).mono ?_; rintro e w2 hpost; obtain ⟨U', ⟨f, b, rfl⟩, own, only, rest⟩ := hpost))
  go_wp2
  go_ret3
  exact ⟨w1, b1, U', ⟨f, b, rfl⟩, own, ((Same.drew w1).only g).trans only, rest⟩

end Go.Proofs.YgcsafGreat
