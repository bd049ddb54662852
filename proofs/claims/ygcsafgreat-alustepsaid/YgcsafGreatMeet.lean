/-
  law.wordsMeet (114), law.viewsMeet (36) of equal views.
-/
import Derived.Test.YgcsafGreatViewB
namespace Go.Proofs.YgcsafGreat
open Go.RowKit
set_option linter.unusedVariables false
set_option linter.unusedSimpArgs false

theorem StB.rd {w : World} {g sp j : Nat} {ws : Nat → Wd4} (h : StB w g sp sp ws) (hj : j < sp) : Rd w (some ⟨g, j * 32, none⟩) 32 (beL (ws j)) :=
  ⟨beL_length _, fun i hi => ⟨g, j * 32, rfl, h.lt, by
    have := h.row j hj i (.int .u8 (((beL (ws j)).getD i 0 : Nat) : Int)) (by rw [if_pos hj, cellsL, List.getElem?_map, List.getElem?_eq_getElem (by rw [beL_length]; exact hi), List.getD_eq_getElem?_getD, List.getElem?_eq_getElem (by rw [beL_length]; exact hi)]; rfl)
    exact this⟩, beL_dig _⟩
set_option maxRecDepth 100000 in
set_option maxHeartbeats 4000000 in
theorem wordsMeet_eq (w : World) (g1 c1 g2 c2 k : Nat) (ws : Nat → Wd4) (h1 : StB w g1 k k ws) (h2 : StB w g2 k k ws) (hk : k ≤ 3) :
    Calls Safg.prog 114 #[.slice (some ⟨g1, 0, none⟩) k c1, .slice (some ⟨g2, 0, none⟩) k c2] w fun e w' => e = .returned (.bool true) ∧ Below w.heap.size w w' := by
  go_enter Safg.func114, Safg.ntmps114
  go_upto_region 4 with fail
  go_loopw [13] (fun i wr => ∃ j : Nat, j ≤ k ∧ i = .int .i64 j ∧ Below w.heap.size w wr) (fun i _ => k - (intOf i).toNat)
  case atStart => exact ⟨0, by omega, rfl, Below.refl _ _⟩
  case round =>
    obtain ⟨j, hj, rfl, br⟩ := hrel
    rcases Nat.lt_or_ge j k with hlt | hge
    · have q1 : decide ((j : Int) < (k : Int)) = true := decide_eq_true (by omega)
      have q2 : (0 : Int) ≤ j := by omega
      have q3 : (j : Int) < (k : Int) := by omega
      have s1 := h1.below br
      have s2 := h2.below br
      go_upto_region 6 with fail
      refine wp_region_held_drew (S := fun w' => w' = wr.drew) (by kernel_rfl) rfl (fun hHeld => ?_)
      refine wpAnyH_take' (i := 0) (d := 16) rfl rfl (by kernel_rfl) (by kernel_rfl) (by kernel_rfl) (fun _ _ _ h => h) (Or.inl ⟨by rfl, fun w hw => by go_simp; try rfl⟩) hHeld ?_
      try simp only [Act.put, List.setIfInBounds_toArray, List.set_cons_zero, List.set_cons_succ]
      refine wpAnyH_take' (i := 1) (d := 17) rfl rfl (by kernel_rfl) (by kernel_rfl) (by kernel_rfl) (fun _ _ _ h => h) (Or.inl ⟨by rfl, fun w hw => by go_simp; try rfl⟩) hHeld ?_
      try simp only [Act.put, List.setIfInBounds_toArray, List.set_cons_zero, List.set_cons_succ]
      refine wpAnyH_take' (i := 2) (d := 18) (v := .pointer (some ⟨g1, j * 32, none⟩)) rfl rfl (by kernel_rfl) (by kernel_rfl) (by kernel_rfl) (fun _ _ _ h => h) (Or.inl ⟨by rfl, fun w hw => by go_simp; try rfl⟩) hHeld ?_
      try simp only [Act.put, List.setIfInBounds_toArray, List.set_cons_zero, List.set_cons_succ]
      refine wpAnyH_take' (i := 3) (d := 19) (v := .slice (some ⟨g1, j * 32, none⟩) 32 32) rfl rfl (by kernel_rfl) (by kernel_rfl) (by kernel_rfl) (fun _ _ _ h => h) (Or.inl ⟨by rfl, fun w hw => by go_simp; try rfl⟩) hHeld ?_
      try simp only [Act.put, List.setIfInBounds_toArray, List.set_cons_zero, List.set_cons_succ]
      refine wpAnyH_take' (i := 4) (d := 20) rfl rfl (by kernel_rfl) (by kernel_rfl) (by kernel_rfl) (fun _ _ _ h => h) (Or.inl ⟨by rfl, fun w hw => by go_simp; try rfl⟩) hHeld ?_
      try simp only [Act.put, List.setIfInBounds_toArray, List.set_cons_zero, List.set_cons_succ]
      refine wpAnyH_take' (i := 5) (d := 21) rfl rfl (by kernel_rfl) (by kernel_rfl) (by kernel_rfl) (fun _ _ _ h => h) (Or.inl ⟨by rfl, fun w hw => by go_simp; try rfl⟩) hHeld ?_
      try simp only [Act.put, List.setIfInBounds_toArray, List.set_cons_zero, List.set_cons_succ]
      refine wpAnyH_take' (i := 6) (d := 22) (v := .pointer (some ⟨g2, j * 32, none⟩)) rfl rfl (by kernel_rfl) (by kernel_rfl) (by kernel_rfl) (fun _ _ _ h => h) (Or.inl ⟨by rfl, fun w hw => by go_simp; try rfl⟩) hHeld ?_
      try simp only [Act.put, List.setIfInBounds_toArray, List.set_cons_zero, List.set_cons_succ]
      refine wpAnyH_take' (i := 7) (d := 23) (v := .slice (some ⟨g2, j * 32, none⟩) 32 32) rfl rfl (by kernel_rfl) (by kernel_rfl) (by kernel_rfl) (fun _ _ _ h => h) (Or.inl ⟨by rfl, fun w hw => by go_simp; try rfl⟩) hHeld ?_
      try simp only [Act.put, List.setIfInBounds_toArray, List.set_cons_zero, List.set_cons_succ]
      have HE := equalBytes_any wr.drew (some ⟨g1, j * 32, none⟩) (some ⟨g2, j * 32, none⟩) 32 32 32 32 (beL (ws j)) (beL (ws j)) ((s1.below (Turn.drew_below wr)).rd hlt) ((s2.below (Turn.drew_below wr)).rd hlt)
      rw [decide_eq_true rfl] at HE
      refine wpAnyH_one 8 (by kernel_rfl) rfl rfl ?_
      refine wp_callR Safg.func113 (by kernel_rfl) (by kernel_rfl) HE rfl rfl ?_
      rintro e w3 ⟨rfl, rfl⟩
      refine ⟨_, rfl, rfl, ?_⟩
      try simp only [Act.put, List.setIfInBounds_toArray, List.set_cons_zero, List.set_cons_succ]
      refine wpAnyH_take' (i := 9) (d := 25) (v := .bool false) rfl rfl (by kernel_rfl) (by kernel_rfl) (by kernel_rfl) (fun _ _ _ h => h) (Or.inl ⟨by rfl, fun w hw => by go_simp; try rfl⟩) rfl ?_
      try simp only [Act.put, List.setIfInBounds_toArray, List.set_cons_zero, List.set_cons_succ]
      refine wpAnyH_done (by kernel_rfl) ?_ _
      have b3 := br.trans ((Turn.drew_below wr).mono br.size)
      clear hHeld HE s1 s2 br
      generalize wr.drew = w3 at *
      go_wp2
      go_roundw
      case rel => exact ⟨j + 1, by omega, by go_num, b3⟩
      case measure => simp [intOf]; omega
    · have q1 : decide ((j : Int) < (k : Int)) = false := decide_eq_false (by omega)
      go_wp2
      go_ret
      exact ⟨rfl, br⟩
theorem arr_rd {w : World} {g off : Nat} {cs A R L : List Value} {M : List Nat} (h : Blk w g cs) (e : cs = A ++ (cellsL M ++ R)) (ho : A.length = off) (dM : D.Dig M) : Rd w (some ⟨g, off, none⟩) M.length M :=
  ⟨rfl, fun i hi => ⟨g, off, rfl, h.lt, by
    refine h.get ?_
    rw [e, ← ho, List.getElem?_append_right (by omega), Nat.add_sub_cancel_left, List.getElem?_append_left (by rw [cellsL_length]; exact hi), cellsL, List.getElem?_map, List.getElem?_eq_getElem hi, List.getD_eq_getElem?_getD, List.getElem?_eq_getElem hi]
    rfl⟩, dM⟩
theorem view_self {w : World} {g pc gas : Nat} {st : Value} (h : Blk w g (vL pc gas st)) : Rd w (some ⟨g, 6, none⟩) 20 (adr 1) := arr_rd (M := adr 1) (off := 6) (A := [.bool false, .bool false, .int .u8 0, .int .u16 (pc : Int), .int .u64 (gas : Int), .int .u64 0]) (L := []) h rfl rfl (adr_dig (by omega))
theorem view_caller {w : World} {g pc gas : Nat} {st : Value} (h : Blk w g (vL pc gas st)) : Rd w (some ⟨g, 26, none⟩) 20 (adr 240) := arr_rd (M := adr 240) (off := 26) (A := [.bool false, .bool false, .int .u8 0, .int .u16 (pc : Int), .int .u64 (gas : Int), .int .u64 0] ++ cellsL (adr 1)) (L := []) h rfl rfl (adr_dig (by omega))
theorem rd_nil (w : World) : Rd w none 0 [] := ⟨rfl, fun i hi => absurd hi (by omega), D.Dig.nil⟩
set_option maxRecDepth 100000 in
set_option maxHeartbeats 4000000 in
theorem viewsMeet_eq (w : World) (pc gas g1 c1 g2 c2 k : Nat) (ws : Nat → Wd4) (h1 : StB w g1 k k ws) (h2 : StB w g2 k k ws) (hk : k ≤ 3) :
    Calls Safg.prog 36 #[.agg (vL pc gas (.slice (some ⟨g1, 0, none⟩) k c1)).toArray, .agg (vL pc gas (.slice (some ⟨g2, 0, none⟩) k c2)).toArray] w fun e w' => e = .returned (.bool true) ∧ Below w.heap.size w w' := by
  go_enter Safg.func36, Safg.ntmps36
  go_upto_region 1 with (first | (refine wpList_box_agg rfl 36 (.tmp 0) rfl (vL pc gas (.slice (some ⟨g1, 0, none⟩) k c1)) rfl ?_; intro w1 ga hga ka b1) | (refine wpList_box_agg rfl 36 (.tmp 1) rfl (vL pc gas (.slice (some ⟨g2, 0, none⟩) k c2)) rfl ?_; intro w2 gb hgb kb b2))
  have ka := ka.below b2 ka.lt
  have B2 := b1.trans (b2.mono b1.size)
  have s1 := h1.below B2
  have s2 := h2.below B2
  clear h1 h2 b1 b2
  have A0 : w2.cell? ⟨ga, 0, none⟩ = some (.bool false) := ka.get rfl
  have A1 : w2.cell? ⟨ga, 1, none⟩ = some (.bool false) := ka.get rfl
  have A2 : w2.cell? ⟨ga, 2, none⟩ = some (.int .u8 0) := ka.get rfl
  have A3 : w2.cell? ⟨ga, 3, none⟩ = some (.int .u16 (pc : Int)) := ka.get rfl
  have A4 : w2.cell? ⟨ga, 4, none⟩ = some (.int .u64 (gas : Int)) := ka.get rfl
  have A5 : w2.cell? ⟨ga, 5, none⟩ = some (.int .u64 0) := ka.get rfl
  have A9 : w2.cell? ⟨ga, 49, none⟩ = some (.int .u16 0) := ka.get rfl
  have B0 : w2.cell? ⟨gb, 0, none⟩ = some (.bool false) := kb.get rfl
  have B1 : w2.cell? ⟨gb, 1, none⟩ = some (.bool false) := kb.get rfl
  have B2' : w2.cell? ⟨gb, 2, none⟩ = some (.int .u8 0) := kb.get rfl
  have B3 : w2.cell? ⟨gb, 3, none⟩ = some (.int .u16 (pc : Int)) := kb.get rfl
  have B4 : w2.cell? ⟨gb, 4, none⟩ = some (.int .u64 (gas : Int)) := kb.get rfl
  have B5 : w2.cell? ⟨gb, 5, none⟩ = some (.int .u64 0) := kb.get rfl
  have B9 : w2.cell? ⟨gb, 49, none⟩ = some (.int .u16 0) := kb.get rfl
  go_upto_region 3 with fail
  clear A0 A1 A2 A3 A4 A5 A9 B0 B1 B2' B3 B4 B5 B9
  refine wp_region_held_drew (S := fun w' => w' = w2.drew) (by kernel_rfl) rfl (fun hHeld => ?_)
  refine wpAnyH_take' (i := 0) (d := 54) rfl rfl (by kernel_rfl) (by kernel_rfl) (by kernel_rfl) (fun _ _ _ h => h) (Or.inl ⟨by rfl, fun w hw => by go_simp; try rfl⟩) hHeld ?_
  try simp only [Act.put, List.setIfInBounds_toArray, List.set_cons_zero, List.set_cons_succ]
  refine wpAnyH_take' (i := 1) (d := 55) rfl rfl (by kernel_rfl) (by kernel_rfl) (by kernel_rfl) (fun _ _ _ h => h) (Or.inl ⟨by rfl, fun w hw => by go_simp; try rfl⟩) hHeld ?_
  try simp only [Act.put, List.setIfInBounds_toArray, List.set_cons_zero, List.set_cons_succ]
  refine wpAnyH_take' (i := 2) (d := 56) rfl rfl (by kernel_rfl) (by kernel_rfl) (by kernel_rfl) (fun _ _ _ h => h) (Or.inl ⟨by rfl, fun w hw => by go_simp; try rfl⟩) hHeld ?_
  try simp only [Act.put, List.setIfInBounds_toArray, List.set_cons_zero, List.set_cons_succ]
  refine wpAnyH_take' (i := 3) (d := 57) rfl rfl (by kernel_rfl) (by kernel_rfl) (by kernel_rfl) (fun _ _ _ h => h) (Or.inl ⟨by rfl, fun w hw => by go_simp; try rfl⟩) hHeld ?_
  try simp only [Act.put, List.setIfInBounds_toArray, List.set_cons_zero, List.set_cons_succ]
  have ka := (Same.drew w2).blk ka
  have kb := (Same.drew w2).blk kb
  have s1 := s1.below (Turn.drew_below w2)
  have s2 := s2.below (Turn.drew_below w2)
  have HA := equalBytes_any w2.drew (some ⟨ga, 6, none⟩) (some ⟨gb, 6, none⟩) 20 20 20 20 (adr 1) (adr 1) (view_self ka) (view_self kb)
  have HB := equalBytes_any w2.drew (some ⟨ga, 26, none⟩) (some ⟨gb, 26, none⟩) 20 20 20 20 (adr 240) (adr 240) (view_caller ka) (view_caller kb)
  rw [decide_eq_true rfl] at HA HB
  refine wpAnyH_one 4 (by kernel_rfl) rfl rfl ?_
  refine wp_callR Safg.func113 (by kernel_rfl) (by kernel_rfl) HA rfl rfl ?_
  rintro e w3 ⟨rfl, rfl⟩
  refine ⟨_, rfl, rfl, ?_⟩
  try simp only [Act.put, List.setIfInBounds_toArray, List.set_cons_zero, List.set_cons_succ]
  refine wpAnyH_take' (i := 5) (d := 59) rfl rfl (by kernel_rfl) (by kernel_rfl) (by kernel_rfl) (fun _ _ _ h => h) (Or.inl ⟨by rfl, fun w hw => by go_simp; try rfl⟩) rfl ?_
  try simp only [Act.put, List.setIfInBounds_toArray, List.set_cons_zero, List.set_cons_succ]
  refine wpAnyH_take' (i := 6) (d := 60) rfl rfl (by kernel_rfl) (by kernel_rfl) (by kernel_rfl) (fun _ _ _ h => h) (Or.inl ⟨by rfl, fun w hw => by go_simp; try rfl⟩) rfl ?_
  try simp only [Act.put, List.setIfInBounds_toArray, List.set_cons_zero, List.set_cons_succ]
  refine wpAnyH_take' (i := 7) (d := 61) rfl rfl (by kernel_rfl) (by kernel_rfl) (by kernel_rfl) (fun _ _ _ h => h) (Or.inl ⟨by rfl, fun w hw => by go_simp; try rfl⟩) rfl ?_
  try simp only [Act.put, List.setIfInBounds_toArray, List.set_cons_zero, List.set_cons_succ]
  refine wpAnyH_take' (i := 8) (d := 62) rfl rfl (by kernel_rfl) (by kernel_rfl) (by kernel_rfl) (fun _ _ _ h => h) (Or.inl ⟨by rfl, fun w hw => by go_simp; try rfl⟩) rfl ?_
  try simp only [Act.put, List.setIfInBounds_toArray, List.set_cons_zero, List.set_cons_succ]
  refine wpAnyH_take' (i := 9) (d := 63) rfl rfl (by kernel_rfl) (by kernel_rfl) (by kernel_rfl) (fun _ _ _ h => h) (Or.inl ⟨by rfl, fun w hw => by go_simp; try rfl⟩) rfl ?_
  try simp only [Act.put, List.setIfInBounds_toArray, List.set_cons_zero, List.set_cons_succ]
  refine wpAnyH_oneG 10 (by kernel_rfl) rfl (by rfl) ?_
  refine wp_callR Safg.func113 (by kernel_rfl) (by kernel_rfl) HB rfl rfl ?_
  rintro e w3 ⟨rfl, rfl⟩
  refine ⟨_, rfl, rfl, ?_⟩
  try simp only [Act.put, List.setIfInBounds_toArray, List.set_cons_zero, List.set_cons_succ]
  refine wpAnyH_take' (i := 11) (d := 65) rfl rfl (by kernel_rfl) (by kernel_rfl) (by kernel_rfl) (fun _ _ _ h => h) (Or.inl ⟨by rfl, fun w hw => by go_simp; try rfl⟩) rfl ?_
  try simp only [Act.put, List.setIfInBounds_toArray, List.set_cons_zero, List.set_cons_succ]
  refine wpAnyH_take' (i := 12) (d := 7) rfl rfl (by kernel_rfl) (by kernel_rfl) (by kernel_rfl) (fun _ _ _ h => h) (Or.inl ⟨by rfl, fun w hw => by go_simp; try rfl⟩) rfl ?_
  try simp only [Act.put, List.setIfInBounds_toArray, List.set_cons_zero, List.set_cons_succ]
  refine wpAnyH_done (by kernel_rfl) ?_ _
  have B3 := B2.trans ((Turn.drew_below w2).mono B2.size)
  clear hHeld HA HB B2
  generalize w2.drew = w3 at *
  have HW := wordsMeet_eq w3 g1 c1 g2 c2 k ws s1 s2 hk
  have A6 : w3.cell? ⟨ga, 46, none⟩ = some (.slice (some ⟨g1, 0, none⟩) k c1) := ka.get rfl
  have B6 : w3.cell? ⟨gb, 46, none⟩ = some (.slice (some ⟨g2, 0, none⟩) k c2) := kb.get rfl
  go_wp2_with (first | (go_at_call 114; refine HW.mono ?_; rintro e w4 ⟨rfl, b4⟩; have ka := ka.below b4 ka.lt; have kb := kb.below b4 kb.lt; have A7 : w4.cell? ⟨ga, 47, none⟩ = some (.slice none 0 0) := ka.get rfl; have B7 : w4.cell? ⟨gb, 47, none⟩ = some (.slice none 0 0) := kb.get rfl; have A8 : w4.cell? ⟨ga, 48, none⟩ = some (.slice none 0 0) := ka.get rfl; have B8 : w4.cell? ⟨gb, 48, none⟩ = some (.slice none 0 0) := kb.get rfl; have HN := equalBytes_any w4 none none 0 0 0 0 [] [] (rd_nil w4) (rd_nil w4); rw [decide_eq_true rfl] at HN) | (go_at_call 113; refine HN.mono ?_; rintro e w5 ⟨rfl, rfl⟩))
  go_ret
  exact ⟨rfl, B3.trans (b4.mono B3.size)⟩
end Go.Proofs.YgcsafGreat
