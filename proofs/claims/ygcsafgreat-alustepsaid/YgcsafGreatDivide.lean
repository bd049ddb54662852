/-
  'u256.divide' (378).
-/
import Derived.Test.YgcsafGreatLawsU
namespace Go.Proofs.YgcsafGreat
open Go.RowKit
set_option linter.unusedVariables false
set_option linter.unusedSimpArgs false

theorem wpAnyH_take' {P : Program} {ops : Array Oper} {Q : Exit → Act → World → Prop} {md : Region.Mode} {S : World → Prop} {i d : Nat} {oi : Oper} {v : Value} {fuel : Nat} {listed : Array Bool} {a : Act} {w : World} (hi : ops[i]? = some oi) (hd : oi.dst = some d)
    (hs : Region.noSelect ops = true) (hf : Region.free md ops listed i = true) (hr : (Region.ready md ops listed).contains i = true)
    (hQ : ∀ c a w, Q (.panic c) (a.put (some d) v) w → Q (.panic c) a w) (hy : YieldsIf P ops S oi v a) (hS : S w)
    (h : wpAnyH P md ops Q S fuel (listed.setIfInBounds i true) (a.put (some d) v) w) : wpAnyH P md ops Q S (fuel + 1) listed a w := by
  rw [← hd] at hQ h
  exact wpAnyH_take hi hs hf hr hQ hy hS h
theorem wpAnyH_mono {P : Program} {ops : Array Oper} {Q : Exit → Act → World → Prop} {md : Region.Mode} {S S' : World → Prop} (hS : ∀ w, S' w → S w) : ∀ (fuel : Nat) (listed : Array Bool) (a : Act) (w : World), wpAnyH P md ops Q S' fuel listed a w → wpAnyH P md ops Q S fuel listed a w
  | 0, _, _, _, h => h
  | fuel + 1, _, _, _, h => ⟨h.1, fun i hi => wpOp_mono (fun a' w' h' => ⟨hS _ h'.1, wpAnyH_mono hS fuel _ a' w' h'.2⟩) (h.2 i hi)⟩

/-- The cells of a Path. -/
def pth (i j k : Int) : List Value := [.int .u8 i, .int .u8 j, .int .u8 k]
theorem pth_one (i j k : Int) : ∀ u ∈ pth i j k, u.oneCell' = true := by
  intro u hu
  simp only [pth, List.mem_cons, List.not_mem_nil, or_false] at hu
  rcases hu with rfl | rfl | rfl <;> rfl
theorem self_there {w : World} {g : Nat} {cs : List Value} (h : Blk w g cs) : w.there g 0 cs.toArray.size := by simpa using h.there

/-- What a division answers and leaves. -/
def DivPost (w : World) (g : Nat) (X : List Nat) (b : Wd4) (e : Ending) (w' : World) : Prop :=
  ∃ (q : List Nat) (r : Wd4) (i j k : Int), e = .returned (.tuple #[r.v, .agg (pth i j k).toArray]) ∧ q.length = 8 ∧ Lim q ∧ r.Ok ∧ OwnU w' g q ∧ Turn [g] w w' ∧ (b.val = 0 → wv q 0 8 = 0 ∧ r.val = 0) ∧ (0 < b.val → r.val < b.val ∧ wv X 0 8 = wv q 0 8 * b.val + r.val)

theorem limbs_zero {b : Wd4} (h : IsLimbs b.l 0) : b.val = 0 := by
  rw [Wd4.val_wv]; exact wv_zeros fun i _ => by rw [Nat.zero_add]; exact h.zero i (Nat.zero_le _)
theorem limbs_pos {b : Wd4} {n : Nat} (h : IsLimbs b.l n) (hn : 0 < n) : 0 < b.val := by
  rw [Wd4.val_wv]
  have h1 : n ≤ 4 := h.le
  have h2 := wv_ge (U := b.l) (o := 0) (i := n - 1) (m := 4) (by omega)
  rw [Nat.zero_add] at h2
  have := h.top hn
  exact Nat.lt_of_lt_of_le (Nat.mul_pos (pow_b64_pos _) (by omega)) h2
theorem wv_replicate (n m : Nat) : wv (List.replicate n 0) 0 m = 0 := wv_zeros fun i _ => by
  rw [List.getD_eq_getElem?_getD, List.getElem?_replicate]; split <;> rfl
theorem lim_replicate (n : Nat) : Lim (List.replicate n 0) := by
  intro x hx
  rw [List.eq_of_mem_replicate hx]; decide

theorem Round_any (w : World) (g h j n : Nat) (U : List Nat) (v : Wd4) (hv : v.Ok) (hgh : h ≠ g) (hU : OwnU w g U) (hV : OwnU w h v.l) (lU : Lim U) (u9 : U.length = 9) (hn2 : 2 ≤ n) (hn4 : n ≤ 4) (hj : j + n ≤ 8) (hm : Mid U v.l j n) (hz : ∀ i, j + n < i → U.getD i 0 = 0) (hl : IsLimbs v.l n) :
    Calls Safg.prog 397 #[.pointer (some ⟨g, 0, none⟩), .pointer (some ⟨h, 0, none⟩), .int .u8 (n : Int), .int .u8 (j : Int)] w fun e w' => ∃ w1, Below w.heap.size w w1 ∧ RoundPost w1 g j n U v.l e w' := by
  obtain rfl | rfl | rfl : n = 2 ∨ n = 3 ∨ n = 4 := by omega
  · exact Round_2 w g h j U v hv hgh hU hV lU u9 hj hm hz hl
  · exact Round_3 w g h j U v hv hgh hU hV lU u9 hj hm hz hl
  · exact Round_4 w g h j U v hv hgh hU hV lU u9 hj hm hz hl

theorem no_carry {U : List Nat} {X s c : Nat} (e : wv U 0 9 + b64 ^ 9 * c = X * 2 ^ s) (hX : X < b64 ^ 8) (hs : s < 64) : wv U 0 9 = X * 2 ^ s := by
  have p64 : 2 ^ s ≤ b64 := by
    rw [b64_eq, show (18446744073709551616 : Nat) = 2 ^ 64 from rfl]; exact Nat.pow_le_pow_right (by omega) (by omega)
  have hlt : X * 2 ^ s < b64 ^ 9 := by
    rw [show (9 : Nat) = 8 + 1 from rfl, Nat.pow_succ]
    exact Nat.lt_of_lt_of_le (Nat.mul_lt_mul_of_pos_right hX (Nat.pow_pos (by omega))) (Nat.mul_le_mul_left _ p64)
  rcases Nat.eq_zero_or_pos c with h | h
  · rw [h, Nat.mul_zero, Nat.add_zero] at e; exact e
  · have : b64 ^ 9 * 1 ≤ b64 ^ 9 * c := Nat.mul_le_mul_left _ h
    rw [Nat.mul_one] at this
    omega
theorem getD_replicate (n i : Nat) : (List.replicate n 0).getD i 0 = 0 := by
  rw [List.getD_eq_getElem?_getD, List.getElem?_replicate]; split <;> rfl
theorem Turn.drew (S : List Nat) (w : World) : Turn S w w.drew := ⟨rfl, rfl, rfl, Nat.le_refl _, fun _ _ _ => rfl⟩
theorem Only.blk {g g' : Nat} {w w' : World} {cs : List Value} (h : Only g w w') (hb : Blk w g' cs) (hne : g' ≠ g) : Blk w' g' cs :=
  ⟨by rw [h.size]; exact hb.lt, fun j v hv => by rw [h.cell (p := ⟨g', 0 + j, none⟩) hne]; exact hb.cell j v hv, fun o => by rw [h.frozen (p := ⟨g', o, none⟩) hne]; exact hb.free o⟩

set_option maxRecDepth 100000 in
set_option maxHeartbeats 4000000 in
theorem divide_zero (w : World) (g : Nat) (X : List Nat) (b : Wd4) (hb : b.Ok) (own : OwnU w g X) (hX : X.length = 8) (lX : Lim X) (hl : IsLimbs b.l 0) :
    Calls Safg.prog 378 #[.pointer (some ⟨g, 0, none⟩), b.v] w (DivPost w g X b) := by
  have hglt := own.lt
  go_enter Safg.func378, Safg.ntmps378
  go_upto_region 1 with (first | (refine wpList_box_agg rfl 65 (.tmp 1) rfl b.cells rfl ?_; intro w1 g3 hg3 k3 c3) | (refine wpList_alloc_agg rfl 65 rfl _ Safg.zero65 ?_; intro w2 g4 hg4 k4 c4) | (refine wpList_alloc_agg rfl 351 rfl _ Safg.zero351 ?_; intro w3 g5 hg5 k5 c5))
  have k3' := (k3.below c4 k3.lt).below c5 (Nat.lt_of_lt_of_le k3.lt c4.size)
  have k4' := k4.below c5 k4.lt
  have b03 : Below w.heap.size w w3 := (c3.trans (c4.mono c3.size)).trans (c5.mono (Nat.le_trans c3.size c4.size))
  have own3 := own.below b03 hglt
  have hs1 := c3.size
  have hs2 := c4.size
  have hs3 := c5.size
  have hgl4 := k4.lt
  have hgl3 := k3.lt
  have hgl5 := k5.lt
  have g34 : g3 ≠ g4 := by omega
  have g35 : g3 ≠ g5 := by omega
  have g45 : g4 ≠ g5 := by omega
  have gg3 : g ≠ g3 := by omega
  have gg4 : g ≠ g4 := by omega
  have gg5 : g ≠ g5 := by omega
  clear c3 c4 c5 k3 k4
  go_upto_region 4 with (first | (refine wpList_load_mid rfl 65 (.tmp 3) rfl g3 0 rfl _ _ k3'.cell Safg.under65 rfl Safg.size65 ?_) | (go_at_call 187; refine (limbs_any _ b hb).mono ?_; rintro e w4 ⟨n', hn', isl, rfl, b4⟩; obtain rfl := IsLimbs.unique isl hl) | (refine wpList_clearU rfl _ rfl g 7 8 rfl X hX (own3.below b4 (by omega)) ?_; intro w5 own5 o5))
  have q4 : Blk w5 g4 Wd4.zero.cells := o5.blk (k4'.below b4 (by omega)) (Ne.symm gg4)
  have q5 : Blk w5 g5 (pth 0 0 0) := o5.blk (k5.below b4 (by omega)) (Ne.symm gg5)
  refine wp_region_held_drew (S := fun w' => w' = w5.drew) (by kernel_rfl) rfl (fun hHeld => ?_)
  refine wpAnyH_take' (i := 0) (d := 21) (v := .agg Wd4.zero.cells.toArray) rfl rfl (by kernel_rfl) (by kernel_rfl) (by kernel_rfl) (fun _ _ _ h => h) (yieldsIf_load_mid (by rfl) 65 _ rfl g4 0 rfl Wd4.zero.cells _ (fun w hw => by subst hw; exact ((Same.drew _).blk q4).cell) Safg.under65 rfl Safg.size65) hHeld ?_
  simp only [Act.put, List.setIfInBounds_toArray, List.set_cons_zero, List.set_cons_succ]
  refine wpAnyH_take' (i := 1) (d := 22) (v := .agg (pth 0 0 0).toArray) rfl rfl (by kernel_rfl) (by kernel_rfl) (by kernel_rfl) (fun _ _ _ h => h) (yieldsIf_load_mid (by rfl) 351 _ rfl g5 0 rfl (pth 0 0 0) _ (fun w hw => by subst hw; exact ((Same.drew _).blk q5).cell) Safg.underlying351 rfl Safg.size351) hHeld ?_
  simp only [Act.put, List.setIfInBounds_toArray, List.set_cons_zero, List.set_cons_succ]
  refine wpAnyH_ready (rs := [2]) (by kernel_rfl) (by simp) ?_
  refine AllReadyH.cons rfl (fun K hK => ?_) AllReadyH.nil
  rw [if_pos (by rfl)]
  refine wp_store_mid 65 _ _ rfl g4 0 Wd4.zero.cells.toArray rfl rfl (self_there ((Same.drew _).blk q4)) Safg.size65 (all_oneCell_toArray (Wd4.one _)) ?_
  rw [setCells_self _ _ ((Same.drew _).blk q4).cell]
  refine hK.out _ _ rfl (fun hHeld => ?_)
  clear hK K
  refine wpAnyH_ready (rs := [3]) (by kernel_rfl) (by simp) ?_
  refine AllReadyH.cons rfl (fun K hK => ?_) AllReadyH.nil
  rw [if_pos (by rfl)]
  refine wp_store_mid 351 _ _ rfl g5 0 (pth 0 0 0).toArray rfl rfl (self_there ((Same.drew _).blk q5)) Safg.size351 (all_oneCell_toArray (pth_one _ _ _)) ?_
  rw [setCells_self _ _ ((Same.drew _).blk q5).cell]
  refine hK.out _ _ rfl (fun hHeld => ?_)
  clear hK K
  refine wpAnyH_done (by kernel_rfl) ?_ _
  go_wp2
  refine bodyPost_ret (results_cell2 Safg.results378 _ _ g4 g5 Wd4.zero.cells (pth 0 0 0) _ _ rfl rfl ((Same.drew _).blk q4) ((Same.drew _).blk q5) Safg.under65 rfl Safg.size65 Safg.underlying351 rfl Safg.size351) rfl ?_
  refine ⟨_, Wd4.zero, 0, 0, 0, rfl, rfl, lim_replicate 8, ⟨by decide, by decide, by decide, by decide⟩, own5.same (Same.drew _), ?_, fun _ => ⟨wv_replicate _ _, by rfl⟩, fun h => absurd h (by rw [limbs_zero hl]; omega)⟩
  refine (Turn.of_below b03 (Nat.le_refl _) [g]).trans ((Turn.of_below b4 (Nat.le_refl _) [g]).trans ((Turn.of_only o5).trans ?_))
  exact Turn.drew _ _
end Go.Proofs.YgcsafGreat
