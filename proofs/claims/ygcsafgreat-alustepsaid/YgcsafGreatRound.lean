/-
  'u256.round' (395).
-/
import Derived.Test.YgcsafGreatKn
import Derived.Deep.RegionHeld3
namespace Go.Proofs.YgcsafGreat
open Go.RowKit
set_option linter.unusedVariables false
set_option linter.unusedSimpArgs false

theorem Same.drew (w : World) : Same w w.drew := ⟨rfl, rfl, rfl, rfl⟩
theorem keepSame {A : World → Prop} {w w1 : World} (hA : ∀ w', Same w w' → A w') (s : Same w w1) : A w1 ∧ Same w w1 := ⟨hA _ s, s⟩

/-- What a round answers and leaves. -/
def RoundPost (w : World) (g o n : Nat) (U V : List Nat) (e : Ending) (w' : World) : Prop :=
  ∃ (U' : List Nat), (∃ (f : Int) (b : Bool), e = .returned (.tuple #[.int .u64 ((wv U o (n + 1) / wv V 0 n : Nat) : Int), .int .u8 f, .bool b])) ∧ OwnU w' g U' ∧ Only g w w' ∧ Lim U' ∧ Within U U' o (n + 1) ∧ wv U' o (n + 1) = wv U o (n + 1) % wv V 0 n

theorem Within.trans {A B C : List Nat} {o m : Nat} (h : Within A B o m) (k : Within B C o m) : Within A C o m := ⟨k.1.trans h.1, fun j hj => (k.2 j hj).trans (h.2 j hj)⟩

set_option maxRecDepth 100000 in
set_option maxHeartbeats 4000000 in
theorem round_2 (w : World) (g h o cu cv : Nat) (U V : List Nat) (hU : OwnU w g U) (hV : OwnU w h V) (hgh : h ≠ g) (lU : Lim U) (lV : Lim V) (ho : o + 3 ≤ U.length) (hn : 2 ≤ V.length) (hm : Mid U V o 2) :
    Calls Safg.prog 395 #[.slice (some ⟨g, o, none⟩) 3 cu, .slice (some ⟨h, 0, none⟩) 2 cv] w (RoundPost w g o 2 U V) := by
  have HD : Hid (_ ∨ _) := hm.digit lU lV
  have hhi := hm.high lU lV
  have htop := hm.top
  have HM : Hid (Mid U V o 2) := hm
  have SC : ∀ w', Same w w' → w'.cell? ⟨g, o + 2, none⟩ = some (.int .u64 ((U.getD (o + 2) 0 : Nat) : Int)) ∧ w'.cell? ⟨g, o + 1, none⟩ = some (.int .u64 ((U.getD (o + 1) 0 : Nat) : Int)) ∧ w'.cell? ⟨g, o + 0, none⟩ = some (.int .u64 ((U.getD (o + 0) 0 : Nat) : Int)) ∧ w'.cell? ⟨h, 1, none⟩ = some (.int .u64 ((V.getD 1 0 : Nat) : Int)) ∧ w'.cell? ⟨h, 0, none⟩ = some (.int .u64 ((V.getD 0 0 : Nat) : Int)) := fun w' s => by
    have h1 := hU.same s
    have h2 := hV.same s
    exact ⟨h1.cell _ (by omega), h1.cell _ (by omega), h1.cell _ (by omega), h2.cell _ (by omega), h2.cell _ (by omega)⟩
  have b1 := lU.getD (o + 1)
  have b2 := lU.getD (o + 0)
  have b3 := lV.getD 1
  have b4 := lV.getD 0
  simp only [Nat.reduceAdd, Nat.reduceSub, Nat.zero_add, Nat.add_zero] at HD hhi htop SC b1 b2 b3 b4
  obtain ⟨x2, HX2⟩ : ∃ x, Hid (U.getD (o + 2) 0 = x) := ⟨_, rfl⟩
  obtain ⟨x1, HX1⟩ : ∃ x, Hid (U.getD (o + 1) 0 = x) := ⟨_, rfl⟩
  obtain ⟨x0, HX0⟩ : ∃ x, Hid (U.getD o 0 = x) := ⟨_, rfl⟩
  obtain ⟨y1, HY1⟩ : ∃ x, Hid (V.getD 1 0 = x) := ⟨_, rfl⟩
  obtain ⟨y0, HY0⟩ : ∃ x, Hid (V.getD 0 0 = x) := ⟨_, rfl⟩
  rw [HX2.out, HY1.out] at hhi
  rw [HX1.out] at b1
  rw [HX0.out] at b2
  rw [HY1.out] at b3 htop
  rw [HY0.out] at b4
  have HD2 := HD.out
  rw [HX2.out, HX1.out, HX0.out, HY1.out, HY0.out] at HD2
  have HD : Hid (digit x2 x1 x0 y1 y0 = wv U o 3 / wv V 0 2 ∨ digit x2 x1 x0 y1 y0 = wv U o 3 / wv V 0 2 + 1) := HD2
  rw [HX2.out, HX1.out, HX0.out, HY1.out, HY0.out] at SC
  clear HD2 hm
  have z0 : IntKind.i64.wrap 0 = 0 := rfl
  have z1 : IntKind.i64.wrap 1 = 1 := rfl
  have z2 : IntKind.i64.wrap 2 = 2 := rfl
  have z3 : IntKind.i64.wrap 3 = 3 := rfl
  go_enter Safg.func395, Safg.ntmps395
  go_upto_region 2 with fail
  have c0 := SC w.drew (Same.drew _)
  go_region_held3 (fun w' => (w'.cell? ⟨g, o + 2, none⟩ = some (.int .u64 (x2 : Int)) ∧ w'.cell? ⟨g, o + 1, none⟩ = some (.int .u64 (x1 : Int)) ∧ w'.cell? ⟨g, o, none⟩ = some (.int .u64 (x0 : Int)) ∧ w'.cell? ⟨h, 1, none⟩ = some (.int .u64 (y1 : Int)) ∧ w'.cell? ⟨h, 0, none⟩ = some (.int .u64 (y0 : Int))) ∧ Same w w')
      (first | exact ⟨c0, Same.drew _⟩ | exact keepSame SC (by assumption))
      (first | (go_at_call 404; refine (trial_any _ x2 x1 x0 y1 y0 hhi (by omega) b1 b2 b3 b4).mono ?_; rintro e w1 ⟨q, hq, HQ, ⟨f, rfl⟩, s1'⟩; have s1 : Same w w1 := (Same.drew w).trans s1'))
  have DV : Hid (q = wv U o 3 / wv V 0 2 ∨ q = wv U o 3 / wv V 0 2 + 1) := by
    show _ ∨ _
    rw [HQ.out]; exact HD.out
  have hU1 := hU.same s1
  have hV1 := hV.same s1
  clear SC c0
  go_wp2_with fail
  refine (takeTimes_any _ g h o 2 cu cv q U V hU1 hV1 hgh lU lV (by omega) (by omega) hq (by omega)).mono ?_
  rintro e w2 ⟨U1, k, rfl, hk, own1, only1, lim1, wi1, E1⟩
  have OA : Only g w w2 := (s1.only g).trans only1
  rcases K.round_fin HM.out.pos DV.out E1 (wv_lt lim1 o _) hk (wv_lt lU o _) with ⟨rfl, hqe, hr⟩ | ⟨rfl, hqe, hr⟩
  · have HR : Hid (wv U1 o 3 = wv U o 3 % wv V 0 2) := hr
    have HQE : Hid (q = wv U o 3 / wv V 0 2) := hqe
    clear hqe hr E1
    rw [show decide ((0 : Nat) ≠ 0) = false from rfl]
    go_wp2
    go_ret3
    exact ⟨U1, ⟨f, false, by rw [← HQE.out]; rfl⟩, own1, OA, lim1, wi1, HR.out⟩
  · have HR : Hid (∀ u2 k2, wv U1 o 3 + wv V 0 2 = u2 + b64 ^ 3 * k2 → u2 < b64 ^ 3 → u2 = wv U o 3 % wv V 0 2) := hr
    have HQE : Hid (q = wv U o 3 / wv V 0 2 + 1) := hqe
    have hq1 : 0 < q := by rw [hqe]; exact Nat.succ_pos _
    have qe : ((q : Int) - 1) = ((q - 1 : Nat) : Int) := by omega
    have hqm : Hid (q - 1 = wv U o 3 / wv V 0 2) := by show _ = _; rw [hqe]; exact Nat.add_sub_cancel _ _
    clear hqe hr E1
    have hV2 := hV1.only only1 hgh
    rw [show decide ((1 : Nat) ≠ 0) = true from rfl]
    go_wp2_with (go_at_call 406; refine (putBack_any _ g h o 2 cu cv U1 V own1 hV2 hgh lim1 lV (by have := wi1.1; omega) (by omega) (by omega)).mono ?_; rintro e w3 ⟨U2, k2, rfl, own2, only2, lim2, wi2, E2⟩)
    go_ret3
    exact ⟨U2, ⟨f, true, by rw [← hqm.out, ← qe]; rfl⟩, own2, OA.trans only2, lim2, wi1.trans wi2, HR.out _ k2 E2 (wv_lt lim2 o _)⟩
set_option maxRecDepth 100000 in
set_option maxHeartbeats 4000000 in
theorem round_3 (w : World) (g h o cu cv : Nat) (U V : List Nat) (hU : OwnU w g U) (hV : OwnU w h V) (hgh : h ≠ g) (lU : Lim U) (lV : Lim V) (ho : o + 4 ≤ U.length) (hn : 3 ≤ V.length) (hm : Mid U V o 3) :
    Calls Safg.prog 395 #[.slice (some ⟨g, o, none⟩) 4 cu, .slice (some ⟨h, 0, none⟩) 3 cv] w (RoundPost w g o 3 U V) := by
  have HD : Hid (_ ∨ _) := hm.digit lU lV
  have hhi := hm.high lU lV
  have htop := hm.top
  have HM : Hid (Mid U V o 3) := hm
  have SC : ∀ w', Same w w' → w'.cell? ⟨g, o + 3, none⟩ = some (.int .u64 ((U.getD (o + 3) 0 : Nat) : Int)) ∧ w'.cell? ⟨g, o + 2, none⟩ = some (.int .u64 ((U.getD (o + 2) 0 : Nat) : Int)) ∧ w'.cell? ⟨g, o + 1, none⟩ = some (.int .u64 ((U.getD (o + 1) 0 : Nat) : Int)) ∧ w'.cell? ⟨h, 2, none⟩ = some (.int .u64 ((V.getD 2 0 : Nat) : Int)) ∧ w'.cell? ⟨h, 1, none⟩ = some (.int .u64 ((V.getD 1 0 : Nat) : Int)) := fun w' s => by
    have h1 := hU.same s
    have h2 := hV.same s
    exact ⟨h1.cell _ (by omega), h1.cell _ (by omega), h1.cell _ (by omega), h2.cell _ (by omega), h2.cell _ (by omega)⟩
  have b1 := lU.getD (o + 2)
  have b2 := lU.getD (o + 1)
  have b3 := lV.getD 2
  have b4 := lV.getD 1
  simp only [Nat.reduceAdd, Nat.reduceSub, Nat.zero_add, Nat.add_zero] at HD hhi htop SC b1 b2 b3 b4
  obtain ⟨x2, HX2⟩ : ∃ x, Hid (U.getD (o + 3) 0 = x) := ⟨_, rfl⟩
  obtain ⟨x1, HX1⟩ : ∃ x, Hid (U.getD (o + 2) 0 = x) := ⟨_, rfl⟩
  obtain ⟨x0, HX0⟩ : ∃ x, Hid (U.getD (o + 1) 0 = x) := ⟨_, rfl⟩
  obtain ⟨y1, HY1⟩ : ∃ x, Hid (V.getD 2 0 = x) := ⟨_, rfl⟩
  obtain ⟨y0, HY0⟩ : ∃ x, Hid (V.getD 1 0 = x) := ⟨_, rfl⟩
  rw [HX2.out, HY1.out] at hhi
  rw [HX1.out] at b1
  rw [HX0.out] at b2
  rw [HY1.out] at b3 htop
  rw [HY0.out] at b4
  have HD2 := HD.out
  rw [HX2.out, HX1.out, HX0.out, HY1.out, HY0.out] at HD2
  have HD : Hid (digit x2 x1 x0 y1 y0 = wv U o 4 / wv V 0 3 ∨ digit x2 x1 x0 y1 y0 = wv U o 4 / wv V 0 3 + 1) := HD2
  rw [HX2.out, HX1.out, HX0.out, HY1.out, HY0.out] at SC
  clear HD2 hm
  have z0 : IntKind.i64.wrap 0 = 0 := rfl
  have z1 : IntKind.i64.wrap 1 = 1 := rfl
  have z2 : IntKind.i64.wrap 2 = 2 := rfl
  have z3 : IntKind.i64.wrap 3 = 3 := rfl
  go_enter Safg.func395, Safg.ntmps395
  go_upto_region 2 with fail
  have c0 := SC w.drew (Same.drew _)
  go_region_held3 (fun w' => (w'.cell? ⟨g, o + 3, none⟩ = some (.int .u64 (x2 : Int)) ∧ w'.cell? ⟨g, o + 2, none⟩ = some (.int .u64 (x1 : Int)) ∧ w'.cell? ⟨g, (o + 1), none⟩ = some (.int .u64 (x0 : Int)) ∧ w'.cell? ⟨h, 2, none⟩ = some (.int .u64 (y1 : Int)) ∧ w'.cell? ⟨h, 1, none⟩ = some (.int .u64 (y0 : Int))) ∧ Same w w')
      (first | exact ⟨c0, Same.drew _⟩ | exact keepSame SC (by assumption))
      (first | (go_at_call 404; refine (trial_any _ x2 x1 x0 y1 y0 hhi (by omega) b1 b2 b3 b4).mono ?_; rintro e w1 ⟨q, hq, HQ, ⟨f, rfl⟩, s1'⟩; have s1 : Same w w1 := (Same.drew w).trans s1'))
  have DV : Hid (q = wv U o 4 / wv V 0 3 ∨ q = wv U o 4 / wv V 0 3 + 1) := by
    show _ ∨ _
    rw [HQ.out]; exact HD.out
  have hU1 := hU.same s1
  have hV1 := hV.same s1
  clear SC c0
  go_wp2_with fail
  refine (takeTimes_any _ g h o 3 cu cv q U V hU1 hV1 hgh lU lV (by omega) (by omega) hq (by omega)).mono ?_
  rintro e w2 ⟨U1, k, rfl, hk, own1, only1, lim1, wi1, E1⟩
  have OA : Only g w w2 := (s1.only g).trans only1
  rcases K.round_fin HM.out.pos DV.out E1 (wv_lt lim1 o _) hk (wv_lt lU o _) with ⟨rfl, hqe, hr⟩ | ⟨rfl, hqe, hr⟩
  · have HR : Hid (wv U1 o 4 = wv U o 4 % wv V 0 3) := hr
    have HQE : Hid (q = wv U o 4 / wv V 0 3) := hqe
    clear hqe hr E1
    rw [show decide ((0 : Nat) ≠ 0) = false from rfl]
    go_wp2
    go_ret3
    exact ⟨U1, ⟨f, false, by rw [← HQE.out]; rfl⟩, own1, OA, lim1, wi1, HR.out⟩
  · have HR : Hid (∀ u2 k2, wv U1 o 4 + wv V 0 3 = u2 + b64 ^ 4 * k2 → u2 < b64 ^ 4 → u2 = wv U o 4 % wv V 0 3) := hr
    have HQE : Hid (q = wv U o 4 / wv V 0 3 + 1) := hqe
    have hq1 : 0 < q := by rw [hqe]; exact Nat.succ_pos _
    have qe : ((q : Int) - 1) = ((q - 1 : Nat) : Int) := by omega
    have hqm : Hid (q - 1 = wv U o 4 / wv V 0 3) := by show _ = _; rw [hqe]; exact Nat.add_sub_cancel _ _
    clear hqe hr E1
    have hV2 := hV1.only only1 hgh
    rw [show decide ((1 : Nat) ≠ 0) = true from rfl]
    go_wp2_with (go_at_call 406; refine (putBack_any _ g h o 3 cu cv U1 V own1 hV2 hgh lim1 lV (by have := wi1.1; omega) (by omega) (by omega)).mono ?_; rintro e w3 ⟨U2, k2, rfl, own2, only2, lim2, wi2, E2⟩)
    go_ret3
    exact ⟨U2, ⟨f, true, by rw [← hqm.out, ← qe]; rfl⟩, own2, OA.trans only2, lim2, wi1.trans wi2, HR.out _ k2 E2 (wv_lt lim2 o _)⟩
set_option maxRecDepth 100000 in
set_option maxHeartbeats 4000000 in
theorem round_4 (w : World) (g h o cu cv : Nat) (U V : List Nat) (hU : OwnU w g U) (hV : OwnU w h V) (hgh : h ≠ g) (lU : Lim U) (lV : Lim V) (ho : o + 5 ≤ U.length) (hn : 4 ≤ V.length) (hm : Mid U V o 4) :
    Calls Safg.prog 395 #[.slice (some ⟨g, o, none⟩) 5 cu, .slice (some ⟨h, 0, none⟩) 4 cv] w (RoundPost w g o 4 U V) := by
  have HD : Hid (_ ∨ _) := hm.digit lU lV
  have hhi := hm.high lU lV
  have htop := hm.top
  have HM : Hid (Mid U V o 4) := hm
  have SC : ∀ w', Same w w' → w'.cell? ⟨g, o + 4, none⟩ = some (.int .u64 ((U.getD (o + 4) 0 : Nat) : Int)) ∧ w'.cell? ⟨g, o + 3, none⟩ = some (.int .u64 ((U.getD (o + 3) 0 : Nat) : Int)) ∧ w'.cell? ⟨g, o + 2, none⟩ = some (.int .u64 ((U.getD (o + 2) 0 : Nat) : Int)) ∧ w'.cell? ⟨h, 3, none⟩ = some (.int .u64 ((V.getD 3 0 : Nat) : Int)) ∧ w'.cell? ⟨h, 2, none⟩ = some (.int .u64 ((V.getD 2 0 : Nat) : Int)) := fun w' s => by
    have h1 := hU.same s
    have h2 := hV.same s
    exact ⟨h1.cell _ (by omega), h1.cell _ (by omega), h1.cell _ (by omega), h2.cell _ (by omega), h2.cell _ (by omega)⟩
  have b1 := lU.getD (o + 3)
  have b2 := lU.getD (o + 2)
  have b3 := lV.getD 3
  have b4 := lV.getD 2
  simp only [Nat.reduceAdd, Nat.reduceSub, Nat.zero_add, Nat.add_zero] at HD hhi htop SC b1 b2 b3 b4
  obtain ⟨x2, HX2⟩ : ∃ x, Hid (U.getD (o + 4) 0 = x) := ⟨_, rfl⟩
  obtain ⟨x1, HX1⟩ : ∃ x, Hid (U.getD (o + 3) 0 = x) := ⟨_, rfl⟩
  obtain ⟨x0, HX0⟩ : ∃ x, Hid (U.getD (o + 2) 0 = x) := ⟨_, rfl⟩
  obtain ⟨y1, HY1⟩ : ∃ x, Hid (V.getD 3 0 = x) := ⟨_, rfl⟩
  obtain ⟨y0, HY0⟩ : ∃ x, Hid (V.getD 2 0 = x) := ⟨_, rfl⟩
  rw [HX2.out, HY1.out] at hhi
  rw [HX1.out] at b1
  rw [HX0.out] at b2
  rw [HY1.out] at b3 htop
  rw [HY0.out] at b4
  have HD2 := HD.out
  rw [HX2.out, HX1.out, HX0.out, HY1.out, HY0.out] at HD2
  have HD : Hid (digit x2 x1 x0 y1 y0 = wv U o 5 / wv V 0 4 ∨ digit x2 x1 x0 y1 y0 = wv U o 5 / wv V 0 4 + 1) := HD2
  rw [HX2.out, HX1.out, HX0.out, HY1.out, HY0.out] at SC
  clear HD2 hm
  have z0 : IntKind.i64.wrap 0 = 0 := rfl
  have z1 : IntKind.i64.wrap 1 = 1 := rfl
  have z2 : IntKind.i64.wrap 2 = 2 := rfl
  have z3 : IntKind.i64.wrap 3 = 3 := rfl
  go_enter Safg.func395, Safg.ntmps395
  go_upto_region 2 with fail
  have c0 := SC w.drew (Same.drew _)
  go_region_held3 (fun w' => (w'.cell? ⟨g, o + 4, none⟩ = some (.int .u64 (x2 : Int)) ∧ w'.cell? ⟨g, o + 3, none⟩ = some (.int .u64 (x1 : Int)) ∧ w'.cell? ⟨g, (o + 2), none⟩ = some (.int .u64 (x0 : Int)) ∧ w'.cell? ⟨h, 3, none⟩ = some (.int .u64 (y1 : Int)) ∧ w'.cell? ⟨h, 2, none⟩ = some (.int .u64 (y0 : Int))) ∧ Same w w')
      (first | exact ⟨c0, Same.drew _⟩ | exact keepSame SC (by assumption))
      (first | (go_at_call 404; refine (trial_any _ x2 x1 x0 y1 y0 hhi (by omega) b1 b2 b3 b4).mono ?_; rintro e w1 ⟨q, hq, HQ, ⟨f, rfl⟩, s1'⟩; have s1 : Same w w1 := (Same.drew w).trans s1'))
  have DV : Hid (q = wv U o 5 / wv V 0 4 ∨ q = wv U o 5 / wv V 0 4 + 1) := by
    show _ ∨ _
    rw [HQ.out]; exact HD.out
  have hU1 := hU.same s1
  have hV1 := hV.same s1
  clear SC c0
  go_wp2_with fail
  refine (takeTimes_any _ g h o 4 cu cv q U V hU1 hV1 hgh lU lV (by omega) (by omega) hq (by omega)).mono ?_
  rintro e w2 ⟨U1, k, rfl, hk, own1, only1, lim1, wi1, E1⟩
  have OA : Only g w w2 := (s1.only g).trans only1
  rcases K.round_fin HM.out.pos DV.out E1 (wv_lt lim1 o _) hk (wv_lt lU o _) with ⟨rfl, hqe, hr⟩ | ⟨rfl, hqe, hr⟩
  · have HR : Hid (wv U1 o 5 = wv U o 5 % wv V 0 4) := hr
    have HQE : Hid (q = wv U o 5 / wv V 0 4) := hqe
    clear hqe hr E1
    rw [show decide ((0 : Nat) ≠ 0) = false from rfl]
    go_wp2
    go_ret3
    exact ⟨U1, ⟨f, false, by rw [← HQE.out]; rfl⟩, own1, OA, lim1, wi1, HR.out⟩
  · have HR : Hid (∀ u2 k2, wv U1 o 5 + wv V 0 4 = u2 + b64 ^ 5 * k2 → u2 < b64 ^ 5 → u2 = wv U o 5 % wv V 0 4) := hr
    have HQE : Hid (q = wv U o 5 / wv V 0 4 + 1) := hqe
    have hq1 : 0 < q := by rw [hqe]; exact Nat.succ_pos _
    have qe : ((q : Int) - 1) = ((q - 1 : Nat) : Int) := by omega
    have hqm : Hid (q - 1 = wv U o 5 / wv V 0 4) := by show _ = _; rw [hqe]; exact Nat.add_sub_cancel _ _
    clear hqe hr E1
    have hV2 := hV1.only only1 hgh
    rw [show decide ((1 : Nat) ≠ 0) = true from rfl]
    go_wp2_with (go_at_call 406; refine (putBack_any _ g h o 4 cu cv U1 V own1 hV2 hgh lim1 lV (by have := wi1.1; omega) (by omega) (by omega)).mono ?_; rintro e w3 ⟨U2, k2, rfl, own2, only2, lim2, wi2, E2⟩)
    go_ret3
    exact ⟨U2, ⟨f, true, by rw [← hqm.out, ← qe]; rfl⟩, own2, OA.trans only2, lim2, wi1.trans wi2, HR.out _ k2 E2 (wv_lt lim2 o _)⟩
end Go.Proofs.YgcsafGreat
