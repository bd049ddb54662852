/-
  'u256.divide' (378) whole; 'u256.DivRem' (329), 'u256.Rem512' (334), 'u256.Div' (208), 'u256.Mod' (210).
-/
import Derived.Test.YgcsafGreatDivideS
import Derived.Test.YgcsafGreatDivideO
import Derived.Test.YgcsafGreatDivideB
import Derived.Test.YgcsafGreatMulW2
namespace Go.Proofs.YgcsafGreat
open Go.RowKit
set_option linter.unusedVariables false
set_option linter.unusedSimpArgs false

theorem limbs_exist (L : List Nat) : ∀ m, m ≤ L.length → (∀ j, m ≤ j → L.getD j 0 = 0) → ∃ n, IsLimbs L n
  | 0, _, hz => ⟨0, Nat.zero_le _, hz, fun h => absurd h (by omega)⟩
  | m + 1, hm, hz => by
    by_cases h : L.getD m 0 = 0
    · exact limbs_exist L m (by omega) fun j hj => by
        rcases Nat.lt_or_ge m j with h1 | h1
        · exact hz j h1
        · obtain rfl : j = m := by omega
          exact h
    · exact ⟨m + 1, hm, hz, fun _ => by rw [Nat.add_sub_cancel]; exact h⟩
theorem limbs_of (L : List Nat) : ∃ n, IsLimbs L n := limbs_exist L L.length (Nat.le_refl _) fun j hj => by
  rw [List.getD_eq_getElem?_getD, List.getElem?_eq_none hj]; rfl

theorem divide_any (w : World) (g : Nat) (X : List Nat) (b : Wd4) (hb : b.Ok) (own : OwnU w g X) (hX : X.length = 8) (lX : Lim X) :
    Calls Safg.prog 378 #[.pointer (some ⟨g, 0, none⟩), b.v] w (DivPost w g X b) := by
  obtain ⟨n, hn⟩ := limbs_of b.l
  obtain ⟨top, ht⟩ := limbs_of X
  by_cases h0 : n = 0
  · subst h0; exact divide_zero w g X b hb own hX lX hn
  by_cases h1 : top < n
  · exact divide_small w g X b hb own hX lX n top hn ht h1
  by_cases h2 : n = 1
  · subst h2; exact divide_one w g X b hb own hX lX top hn ht (by omega)
  · exact divide_big w g X b hb own hX lX n top hn ht (by omega) (by omega)

theorem Blk.turn {S : List Nat} {w w' : World} {g : Nat} {cs : List Value} (h : Blk w g cs) (t : Turn S w w') (hn : g ∉ S) : Blk w' g cs :=
  ⟨Nat.lt_of_lt_of_le h.lt t.size, fun j v hv => by rw [t.cell (p := ⟨g, 0 + j, none⟩) h.lt hn]; exact h.cell j v hv, fun o => by rw [t.frozen (p := ⟨g, o, none⟩) h.lt hn]; exact h.free o⟩
theorem Turn.nil_below {w w' : World} {g : Nat} {B : Nat} (h : Turn [g] w w') (hB : B ≤ w.heap.size) (hg : B ≤ g) : Below B w w' :=
  h.below hB fun i hi => by simp at hi; omega

theorem wv8_split (q : List Nat) (v : Wd4) (h : v.l = q.take 4) (hl : q.length = 8) : ∃ H, wv q 0 8 = v.val + b256 * H := by
  refine ⟨wv q 4 4, ?_⟩
  rw [show (8 : Nat) = 4 + 4 from rfl, wv_split, Wd4.val_wv, Nat.zero_add]
  have e1 : wv q 0 4 = wv v.l 0 4 := wv_congr fun j hj => by
    rw [h, Nat.zero_add]
    simp only [List.getD_eq_getElem?_getD, List.getElem?_take, if_pos hj]
  have e2 : b64 ^ 4 = b256 := by
    unfold b256
    rw [show (4 : Nat) = 0 + 1 + 1 + 1 + 1 from rfl, Nat.pow_succ, Nat.pow_succ, Nat.pow_succ, Nat.pow_succ, Nat.pow_zero, Nat.one_mul, Nat.mul_assoc, Nat.mul_assoc]
  rw [e1, e2]

/-- Three results in cells. -/
theorem results_cell3 {fn : Func} {p q r : Tmp} {ty ty' ty'' : TypeId} (h : fn.results = #[.cell p ty, .cell q ty', .cell r ty'']) (tmps : Array Value) (w : World) (g g' g'' : Nat) (cs cs' cs'' : List Value) (d d' d'' : TypeDesc) (hp : tmps.getD p undef = .pointer (some ⟨g, 0, none⟩)) (hq : tmps.getD q undef = .pointer (some ⟨g', 0, none⟩)) (hr : tmps.getD r undef = .pointer (some ⟨g'', 0, none⟩)) (hb : Blk w g cs) (hb' : Blk w g' cs') (hb'' : Blk w g'' cs'')
    (hu : Safg.prog.underlying ty = some d) (hd : d.isRow = true) (hi : (Safg.prog.info? ty).map (·.size) = some cs.length) (hu' : Safg.prog.underlying ty' = some d') (hd' : d'.isRow = true) (hi' : (Safg.prog.info? ty').map (·.size) = some cs'.length) (hu'' : Safg.prog.underlying ty'' = some d'') (hd'' : d''.isRow = true) (hi'' : (Safg.prog.info? ty'').map (·.size) = some cs''.length) : (results fn tmps).run Safg.prog w = .ok (.tuple #[.agg cs.toArray, .agg cs'.toArray, .agg cs''.toArray]) w := by
  have hp' : tmps[p]?.getD undef = .pointer (some ⟨g, 0, none⟩) := by simpa using hp
  have hq' : tmps[q]?.getD undef = .pointer (some ⟨g', 0, none⟩) := by simpa using hq
  have hr' : tmps[r]?.getD undef = .pointer (some ⟨g'', 0, none⟩) := by simpa using hr
  simp [results, h, hp', hq', hr', asAddr, run_loadVar_mid w g 0 ty cs d hb.cell hu hd hi, run_loadVar_mid w g' 0 ty' cs' d' hb'.cell hu' hd' hi', run_loadVar_mid w g'' 0 ty'' cs'' d'' hb''.cell hu'' hd'' hi'']
theorem yieldsIf_arrayPtr {ops : Array Oper} {S : World → Prop} {o : Oper} {a : Act} (hw : Region.wanted o (yielded ops a.tmps) = true) (ty : TypeId) (x : Operand) (ho : o.op = .sliceToArrayPointer ty x)
    (ad : Option Addr) (len cap n : Nat) (e : TypeId) (hx : a.eval x = .slice ad len cap) (hu : Safg.prog.underlying ty = some (.array n e)) (hn : n ≤ len) : YieldsIf Safg.prog ops S o (.pointer ad) a :=
  Or.inl ⟨hw, fun w _ => by
    simp only [execOp, ho, hx, Sem.run_bind, run_arrayAt (P := Safg.prog) (w := w) ty e n ad len cap hu hn, Result.andThen_ok, Sem.run_pure]⟩

/-- The limbs of a word, zeros above. -/
theorem wv_wide (a b : Wd4) : wv (a.l ++ b.l) 0 8 = a.val + b256 * b.val := by
  have e2 : b64 ^ 4 = b256 := by
    unfold b256
    rw [show (4 : Nat) = 0 + 1 + 1 + 1 + 1 from rfl, Nat.pow_succ, Nat.pow_succ, Nat.pow_succ, Nat.pow_succ, Nat.pow_zero, Nat.one_mul, Nat.mul_assoc, Nat.mul_assoc]
  rw [show (8 : Nat) = 4 + 4 from rfl, wv_split, Wd4.val_wv, Wd4.val_wv, e2]
  congr 1
theorem lim_wide {a b : Wd4} (ha : a.Ok) (hb : b.Ok) : Lim (a.l ++ b.l) := by
  intro x hx
  rcases List.mem_append.1 hx with h | h
  · exact Wd4.lim ha x h
  · exact Wd4.lim hb x h

theorem quot_of {X Q b r : Nat} (hb : 0 < b) (h : X = Q * b + r) (hr : r < b) : X / b = Q ∧ X % b = r := by
  subst h
  rw [Nat.mul_comm, Nat.mul_add_div hb, Nat.div_eq_of_lt hr, Nat.mul_add_mod, Nat.mod_eq_of_lt hr]
  exact ⟨rfl, rfl⟩

def DivRemPost (w : World) (a b : Nat) (e : Ending) (w' : World) : Prop :=
  ∃ (q r : Wd4) (i j k : Int), q.Ok ∧ r.Ok ∧ q.val = a / b ∧ r.val = (if b = 0 then 0 else a % b) ∧ e = .returned (.tuple #[q.v, r.v, .agg (pth i j k).toArray]) ∧ Below w.heap.size w w'
def RemPost (w : World) (a b : Nat) (e : Ending) (w' : World) : Prop :=
  ∃ (r : Wd4) (i j k : Int), r.Ok ∧ r.val = (if b = 0 then 0 else a % b) ∧ e = .returned (.tuple #[r.v, .agg (pth i j k).toArray]) ∧ Below w.heap.size w w'
/-- What a function of 'u256' answers: a word. -/
def WdRes (w : World) (x : Nat) (e : Ending) (w' : World) : Prop :=
  ∃ s : Wd4, s.Ok ∧ s.val = x ∧ e = .returned s.v ∧ Below w.heap.size w w'

set_option maxRecDepth 100000 in
set_option maxHeartbeats 4000000 in
theorem divRem_any (w : World) (a b : Wd4) (ha : a.Ok) (hb : b.Ok) :
    Calls Safg.prog 329 #[a.v, b.v] w (DivRemPost w a.val b.val) := by
  go_enter Safg.func329, Safg.ntmps329
  go_upto_region 1 with (first | (refine wpList_box_agg rfl 65 (.tmp 0) rfl a.cells rfl ?_; intro w1 g2 hg2 k2 c2) | (refine wpList_box_agg rfl 65 (.tmp 1) rfl b.cells rfl ?_; intro w2 g3 hg3 k3 c3) | (refine wpList_alloc_agg rfl 65 rfl _ Safg.zero65 ?_; first | ((fail_if_success (revert hg4)); intro w3 g4 hg4 k4 c4) | intro w4 g5 hg5 k5 c5) | (refine wpList_alloc_agg rfl 351 rfl _ Safg.zero351 ?_; intro w5 g6 hg6 k6 c6))
  have s1 := c2.size; have s2 := c3.size; have s3 := c4.size; have s4 := c5.size; have s5 := c6.size
  have l2 := k2.lt; have l3 := k3.lt; have l4 := k4.lt; have l5 := k5.lt; have l6 := k6.lt
  have b05 : Below w.heap.size w w5 := c2.trans ((c3.mono s1).trans ((c4.mono (by omega)).trans ((c5.mono (by omega)).trans (c6.mono (by omega)))))
  have m2 : Blk w5 g2 a.cells := (((k2.below c3 (by omega)).below c4 (by omega)).below c5 (by omega)).below c6 (by omega)
  have m3 : Blk w5 g3 b.cells := ((k3.below c4 (by omega)).below c5 (by omega)).below c6 (by omega)
  have m4 := (k4.below c5 (by omega)).below c6 (by omega)
  have m5 := k5.below c6 (by omega)
  clear c2 c3 c4 c5 c6 k2 k3 k4 k5
  have A0 := m2.get (j := 0) (v := .int .u64 (a.x0 : Int)) rfl
  have A1 := m2.get (j := 1) (v := .int .u64 (a.x1 : Int)) rfl
  have A2 := m2.get (j := 2) (v := .int .u64 (a.x2 : Int)) rfl
  have A3 := m2.get (j := 3) (v := .int .u64 (a.x3 : Int)) rfl
  go_upto_region 2 with (first | (refine wpList_alloc_agg rfl 67 rfl _ Safg.zero67 ?_; intro w6 g7 hg7 k7 c7) | (refine wpList_store_agg rfl 67 _ _ rfl g7 rfl _ (a.cells ++ Wd4.zero.cells) rfl k7 rfl Safg.size67 (one8 _ _) ?_; intro w7 k7' o7))
  have s6 := c7.size; have l7 := k7.lt
  have b57 : Below w5.heap.size w5 w7 := c7.trans (o7.below (by omega))
  have n3 : Blk w7 g3 b.cells := m3.below b57 (by omega)
  have n4 := m4.below b57 (by omega)
  have n5 := m5.below b57 (by omega)
  have n6 := k6.below b57 (by omega)
  have s7 := o7.size
  have own7 : OwnU w7 g7 (a.l ++ Wd4.zero.l) := Blk.ownU k7'
  clear m2 m3 m4 m5 k6 k7 k7' A0 A1 A2 A3
  have z0 : Wd4.zero.Ok := ⟨by decide, by decide, by decide, by decide⟩
  have HD := divide_any w7 g7 _ b hb own7 rfl (lim_wide ha z0)
  go_upto_region 3 with (first | (refine wpList_load_mid rfl 65 (.tmp 3) rfl g3 0 rfl _ _ n3.cell Safg.under65 rfl Safg.size65 ?_) | (go_at_call 378; refine HD.mono ?_; rintro e w8 ⟨q, r, i, j, k, rfl, hq8, lq, rok, own8, t8, hz, hnz⟩; have n5 : Blk w8 g5 _ := n5.turn t8 (by simp; omega); have n6 : Blk w8 g6 _ := n6.turn t8 (by simp; omega)) | (refine wpList_store_agg rfl 65 _ _ rfl g5 rfl _ r.cells rfl n5 rfl Safg.size65 (Wd4.one _) ?_; intro w9 p5 o9; have n6 := o9.blk n6 (by omega)) | (refine wpList_store_agg rfl 351 _ _ rfl g6 rfl _ (pth i j k) rfl n6 rfl Safg.size351 (pth_one _ _ _) ?_; intro w10 p6 o10))
  have s8 := t8.size; have s9 := o9.size; have s10 := o10.size
  have p5' : Blk w10 g5 r.cells := o10.blk p5 (by omega)
  have p4 : Blk w10 g4 _ := o10.blk (o9.blk (n4.turn t8 (by simp; omega)) (by omega)) (by omega)
  have own10 : OwnU w10 g7 q := (own8.only o9 (by omega)).only o10 (by omega)
  obtain ⟨Q, hQ⟩ := list4 (L := q.take 4) (by simp [hq8])
  have Qok : Q.Ok := Lim.ok (by rw [hQ]; intro x hx; exact lq x (List.mem_of_mem_take hx))
  have rng : w10.rangeAt g7 0 Q.cells := fun j v hv => by
    rw [Wd4.cellsU] at hv
    obtain ⟨hj, rfl⟩ := cellsU_get _ j v hv
    have hj4 : j < 4 := hj
    have e : Q.l.getD j 0 = q.getD j 0 := by
      rw [hQ]
      simp only [List.getD_eq_getElem?_getD, List.getElem?_take, if_pos hj4]
    rw [Nat.zero_add, own10.cell j (by omega)]
    show _ = some (Value.int IntKind.u64 ((Q.l.getD j 0 : Nat) : Int))
    rw [e]
  have rng' : w10.drew.rangeAt g7 0 Q.cells := rng
  have d4 := (Same.drew w10).blk p4
  have d5 := (Same.drew w10).blk p5'
  have d6 := (Same.drew w10).blk p6
  have o11 : Only g4 w10.drew (w10.drew.setCells g4 0 Q.cells) := Only.setCells _ 0 (Only.refl _ _)
  have e4 : Blk (w10.drew.setCells g4 0 Q.cells) g4 Q.cells := d4.store rfl
  have e5 := o11.blk d5 (by omega)
  have e6 := o11.blk d6 (by omega)
  have rng2 : (w10.drew.setCells g4 0 Q.cells).rangeAt g7 0 Q.cells := fun j v hv => by rw [o11.cell (p := ⟨g7, 0 + j, none⟩) (by show g7 ≠ g4; omega)]; exact rng' j v hv
  refine wp_region_held_drew (S := fun w' => Blk w' g5 r.cells ∧ Blk w' g6 (pth i j k) ∧ w'.rangeAt g7 0 Q.cells) (by kernel_rfl) ⟨d5, d6, rng'⟩ (fun hHeld => ?_)
  refine wpAnyH_take' (i := 0) (d := 22) (v := .slice (some ⟨g7, 0, none⟩) 4 8) rfl rfl (by kernel_rfl) (by kernel_rfl) (by kernel_rfl) (fun _ _ _ h => h) (Or.inl ⟨by rfl, fun w hw => by go_simp⟩) hHeld ?_
  simp only [Act.put, List.setIfInBounds_toArray, List.set_cons_zero, List.set_cons_succ]
  refine wpAnyH_take' (i := 1) (d := 23) (v := .pointer (some ⟨g7, 0, none⟩)) rfl rfl (by kernel_rfl) (by kernel_rfl) (by kernel_rfl) (fun _ _ _ h => h) (yieldsIf_arrayPtr (by rfl) 65 _ rfl (some ⟨g7, 0, none⟩) 4 8 4 31 rfl Safg.under65 (Nat.le_refl _)) hHeld ?_
  simp only [Act.put, List.setIfInBounds_toArray, List.set_cons_zero, List.set_cons_succ]
  refine wpAnyH_take' (i := 2) (d := 24) (v := .agg Q.cells.toArray) rfl rfl (by kernel_rfl) (by kernel_rfl) (by kernel_rfl) (fun _ _ _ h => h) (yieldsIf_load_mid (by rfl) 65 _ rfl g7 0 rfl Q.cells _ (fun w hw => hw.2.2) Safg.under65 rfl Safg.size65) hHeld ?_
  simp only [Act.put, List.setIfInBounds_toArray, List.set_cons_zero, List.set_cons_succ]
  refine wpAnyH_take' (i := 3) (d := 25) (v := .agg r.cells.toArray) rfl rfl (by kernel_rfl) (by kernel_rfl) (by kernel_rfl) (fun _ _ _ h => h) (yieldsIf_load_mid (by rfl) 65 _ rfl g5 0 rfl r.cells _ (fun w hw => hw.1.cell) Safg.under65 rfl Safg.size65) hHeld ?_
  simp only [Act.put, List.setIfInBounds_toArray, List.set_cons_zero, List.set_cons_succ]
  refine wpAnyH_take' (i := 4) (d := 26) (v := .agg (pth i j k).toArray) rfl rfl (by kernel_rfl) (by kernel_rfl) (by kernel_rfl) (fun _ _ _ h => h) (yieldsIf_load_mid (by rfl) 351 _ rfl g6 0 rfl (pth i j k) _ (fun w hw => hw.2.1.cell) Safg.underlying351 rfl Safg.size351) hHeld ?_
  simp only [Act.put, List.setIfInBounds_toArray, List.set_cons_zero, List.set_cons_succ]
  refine wpAnyH_ready (rs := [5]) (by kernel_rfl) (by simp) ?_
  refine AllReadyH.cons rfl (fun K hK => ?_) AllReadyH.nil
  rw [if_pos (by rfl)]
  refine wp_store_mid 65 _ _ rfl g4 0 Q.cells.toArray rfl rfl (show w10.drew.there g4 0 4 from self_there d4) Safg.size65 (all_oneCell_toArray (Wd4.one _)) ?_
  refine hK.out _ _ ⟨e5, e6, rng2⟩ (fun hHeld => ?_)
  clear hK K
  simp only [Act.put, List.setIfInBounds_toArray, List.set_cons_zero, List.set_cons_succ]
  refine wpAnyH_ready (rs := [6]) (by kernel_rfl) (by simp) ?_
  refine AllReadyH.cons rfl (fun K hK => ?_) AllReadyH.nil
  rw [if_pos (by rfl)]
  refine wp_store_mid 65 _ _ rfl g5 0 r.cells.toArray rfl rfl (self_there e5) Safg.size65 (all_oneCell_toArray (Wd4.one _)) ?_
  simp only [List.toList_toArray]
  rw [setCells_self _ _ e5.cell]
  refine hK.out _ _ ⟨e5, e6, rng2⟩ (fun hHeld => ?_)
  clear hK K
  simp only [Act.put, List.setIfInBounds_toArray, List.set_cons_zero, List.set_cons_succ]
  refine wpAnyH_ready (rs := [7]) (by kernel_rfl) (by simp) ?_
  refine AllReadyH.cons rfl (fun K hK => ?_) AllReadyH.nil
  rw [if_pos (by rfl)]
  refine wp_store_mid 351 _ _ rfl g6 0 (pth i j k).toArray rfl rfl (self_there e6) Safg.size351 (all_oneCell_toArray (pth_one _ _ _)) ?_
  simp only [List.toList_toArray]
  rw [setCells_self _ _ e6.cell]
  refine hK.out _ _ ⟨e5, e6, rng2⟩ (fun hHeld => ?_)
  clear hK K
  refine wpAnyH_done (by kernel_rfl) ?_ _
  go_wp2
  refine bodyPost_ret (results_cell3 Safg.results329 _ _ g4 g5 g6 Q.cells r.cells (pth i j k) _ _ _ rfl rfl rfl e4 e5 e6 Safg.under65 rfl Safg.size65 Safg.under65 rfl Safg.size65 Safg.underlying351 rfl Safg.size351) rfl ?_
  obtain ⟨H, hH⟩ := wv8_split q Q hQ hq8
  rw [wv_wide, show Wd4.zero.val = 0 from rfl, Nat.mul_zero, Nat.add_zero] at hnz
  have bb : Below w.heap.size w (w10.drew.setCells g4 0 Q.cells) := by
    refine b05.trans ((b57.mono (by omega)).trans ?_)
    refine (t8.nil_below (B := w.heap.size) (by omega) (by omega)).trans ((o9.below (by omega)).trans ((o10.below (by omega)).trans ?_))
    exact ((Turn.drew [] w10).below (by omega) (by simp)).trans (o11.below (by omega))
  rcases Nat.eq_zero_or_pos b.val with h0 | h0
  · obtain ⟨q0, r0⟩ := hz h0
    have : Q.val = 0 := by omega
    exact ⟨Q, r, i, j, k, Qok, rok, by rw [this, h0, Nat.div_zero], by rw [if_pos h0]; exact r0, rfl, bb⟩
  · obtain ⟨h1, h2⟩ := hnz h0
    obtain ⟨h3, h4⟩ := quot_of h0 h2 h1
    have h5 : a.val / b.val < b256 := Nat.lt_of_le_of_lt (Nat.div_le_self _ _) (Wd4.lt ha)
    have h6 : H = 0 := by
      rcases Nat.eq_zero_or_pos H with h | h
      · exact h
      · have : b256 * 1 ≤ b256 * H := Nat.mul_le_mul_left _ h
        omega
    subst h6
    exact ⟨Q, r, i, j, k, Qok, rok, by omega, by rw [if_neg (by omega)]; exact h4.symm, rfl, bb⟩
end Go.Proofs.YgcsafGreat
