/-
  'Arena.Store32' (56), 'Move' (58), 'Read' (59), 'Write' (60).
-/
import Derived.Test.YgcsafMeth
namespace Go.Proofs.Ygcsaf
open Go.RowKit
set_option linter.unusedVariables false
set_option linter.unusedSimpArgs false

theorem Vec.block_lt {B : Nat} {w : World} {v : Value} {vs : List Value} (h : Vec B w v vs) {g : Nat} (hg : v.ownBlock = some g) : g < w.heap.size ∧ B ≤ g := by
  rcases h with ⟨rfl, _⟩ | ⟨g', cap, rfl, hB, r, hm⟩
  · cases hg
  · have e : g' = g := by simpa [Value.ownBlock] using hg
    subst e
    exact ⟨r.lt, hB⟩

theorem Same.setCell {w w' : World} (h : Same w w') (p : Addr) (v : Value) : Same (w.setCell p v) (w'.setCell p v) :=
  ⟨by unfold World.setCell; rw [h.heap], h.os, h.tape, h.output⟩
theorem Same.setCells {w w' : World} (h : Same w w') (g o : Nat) (vs : List Value) : Same (w.setCells g o vs) (w'.setCells g o vs) := by
  induction vs generalizing w w' o with
  | nil => exact h
  | cons v vs ih => rw [World.setCells, World.setCells]; exact ih (h.setCell _ _) (o + 1)
theorem setCells_append (w : World) (g o : Nat) (xs ys : List Value) : (w.setCells g o xs).setCells g (o + xs.length) ys = w.setCells g o (xs ++ ys) := by
  induction xs generalizing w o with
  | nil => rfl
  | cons v vs ih =>
    rw [List.cons_append, World.setCells, World.setCells, ← ih, List.length_cons]
    congr 1
    omega

attribute [local go_sem ↓] Go.wp_at_zero Go.wp_at_succ
set_option maxHeartbeats 1000000 in
set_option maxRecDepth 100000 in
theorem aStore32 (w : World) (B T : Nat) (bv : Value) (buf base : List Nat) (F : List (List Nat)) (h : ArF B T w bv buf base F) (off : Nat) (W : List Nat) (ho : off < 4294967296) (hW : W.length = 32) (hd : D.Dig W) :
    Calls Safg.prog 56 #[.pointer (some ⟨T, 0, none⟩), .int .u32 (off : Int), arrV W] w fun e w' => e = .returned (.bool (hasF F off 32)) ∧ APost B T w w' bv (putIf F off 32 W) := by
  obtain ⟨q, HQ⟩ : ∃ q, Hid (hasF F off 32 = q) := ⟨_, rfl⟩
  rw [HQ.out]
  go_enter Safg.func56, Safg.ntmps56
  go_upto_region 1 with (refine wpList_box_arr rfl 28 _ rfl W rfl ?_; intro w1 g1 hg1 o1 b1)
  have h1 := h.below b1
  go_wp2_with fail
  refine (part_both w1 B T bv buf base F h1 off 32 ho (by omega)).mono ?_
  rintro e w2 ⟨s2, ⟨h2, rfl⟩ | ⟨h2, h3, ad, g, lo, rfl, sp⟩⟩
  · obtain rfl : q = false := HQ.out.symm.trans h2
    clear h2
    go_wp2
    go_ret
    exact ⟨rfl, by rw [putIf_no HQ.out]; exact h.grew (b1.trans (s2.below _))⟩
  · obtain rfl : q = true := HQ.out.symm.trans h2
    have o2 := s2.own o1
    have HP : Hid (∀ (w' : World), Same (w2.setCells g lo (cellsL W)) w' → APost B T w2 w' bv (F.dropLast ++ [layL (topF F) off W])) := sp.put W hW hd
    have hth := sp.there
    have hgl : g < w.heap.size := (h.ar.vec.block_lt (sp.blk (by omega))).1
    obtain rfl := sp.ad (by omega)
    have hr := o2.range
    have hlen : (cellsL W).length = 32 := by rw [cellsL_length, hW]
    have hi28 := Safg.size28
    rw [← hlen] at hi28
    have hu28 := Safg.underlying28
    have hone := cellsL_one W
    have har := run_arrayAt (P := Safg.prog) w2.drew 28 5 32 (some ⟨g, lo, none⟩) 32 32 Safg.underlying28 (Nat.le_refl _)
    rw [← hlen] at hth
    clear h2 sp
    go_upto_region 4 with fail
    go_region_held3 (fun w' => w'.rangeAt g1 0 (cellsL W) ∧ w'.there g lo (cellsL W).length)
      (first | exact ⟨by simpa using hr, by simpa using hth⟩ | exact ⟨World.rangeAt_setCells_apart (by simpa using hr) _ _ _ (.inl (by omega)), World.there_setCells (by simpa using hth) _ _ _⟩)
      (first | fail)
    go_wp2
    go_ret
    refine ⟨rfl, ?_⟩
    rw [putIf_yes HQ.out]
    refine APost.after h.ar.lt (b1.trans (s2.below _)) (HP.out _ ?_)
    exact (Same.drew _).setCells _ _ _

/-- 'copy(to, from)' into the middle of a row. -/
theorem wpList_copy_mid {w : World} {ops : Array Oper} {rest : List Oper} {o : Oper} {a : Act} {Q : Exit → Act → World → Prop} (hgd : o.guard = none) (d s : Operand)
    (ho : o.op = .call { callee := .builtin .copy, args := #[d, s], argTypes := #[30, 30] })
    (ad sp : Option Addr) (g lo n dCap m sCap k : Nat) (hd : a.eval d = .slice ad n dCap) (hs : a.eval s = .slice sp m sCap) (hk : Nat.min m n = k) (had : 0 < k → ad = some ⟨g, lo, none⟩)
    (L : List Nat) (hL : L.length = k) (hrd : ∀ j, j < k → ∃ b off, sp = some ⟨b, off, none⟩ ∧ w.cell? ⟨b, off + j, none⟩ = some (byteV (L.getD j 0))) (hth : ∀ j, j < k → (w.cell? ⟨g, lo + j, none⟩).isSome = true ∧ w.frozen? ⟨g, lo + j, none⟩ = false)
    (hK : wpList Safg.prog ops Q rest (a.put o.dst (.int .i64 (k : Int))) (w.setCells g lo (L.map byteV))) :
    wpList Safg.prog ops Q (o :: rest) a w := by
  refine wpList_plain hgd fun K hK' => ?_
  have hrun : (Builtin.copy_ #[30, 30] o.type #[.slice ad n dCap, .slice sp m sCap]).run Safg.prog w = .ok (.int .i64 (k : Int)) (w.setCells g lo (L.map byteV)) := by
    by_cases h0 : k = 0
    · subst h0
      obtain rfl : L = [] := List.eq_nil_of_length_eq_zero hL
      have := run_copy_none (P := Safg.prog) w 30 30 o.type 5 ad sp n dCap m sCap Safg.underlying30 Safg.size5 hk
      rw [this]; rfl
    · obtain ⟨b, off, rfl, _⟩ := hrd 0 (by omega)
      obtain rfl := had (by omega)
      have := run_copy_cells (P := Safg.prog) w 30 30 o.type 5 g lo n dCap ⟨b, off, none⟩ m sCap (L.map byteV) Safg.underlying30 Safg.size5 (by rw [List.length_map, hL, hk])
        (fun j v hv => by
          rw [byteV_cellsL] at hv
          obtain ⟨hj, rfl⟩ := cellsL_get L j v hv
          obtain ⟨b', off', e, hc⟩ := hrd j (by omega)
          have e' : (⟨b, off, none⟩ : Addr) = ⟨b', off', none⟩ := Option.some.inj e
          rw [e', Addr.add_mid]; exact hc)
        (fun j hj => (hth j (by simpa [hL] using hj)).1) (fun j hj => (hth j (by simpa [hL] using hj)).2) (by rw [byteV_cellsL]; exact cellsL_one L)
      rw [this, List.length_map, hL]; rfl
  unfold Oper.wp
  simp [execOp, ho, resolve, invoke, builtin, hd, hs, hrun, Result.andThen]
  exact hK' _ _ hK

theorem Rd.cells {w : World} {a : Option Addr} {n : Nat} {l : List Nat} (h : Rd w a n l) : ∀ j, j < n → ∃ b off, a = some ⟨b, off, none⟩ ∧ w.cell? ⟨b, off + j, none⟩ = some (byteV (l.getD j 0)) := fun j hj => by
  obtain ⟨b, off, e, _, hc⟩ := h.cell j hj
  exact ⟨b, off, e, hc⟩
theorem Same.rd {w w' : World} (s : Same w w') {a : Option Addr} {n : Nat} {l : List Nat} (h : Rd w a n l) : Rd w' a n l := h.below (s.below _)

/-- What Move leaves. -/
def moveF (F : List (List Nat)) (dst src n : Nat) : List (List Nat) := if hasF F dst n = true ∧ hasF F src n = true then putF F dst (subL (topF F) src n) else F

set_option maxHeartbeats 1000000 in
theorem aMove (w : World) (B T : Nat) (bv : Value) (buf base : List Nat) (F : List (List Nat)) (h : ArF B T w bv buf base F) (dst src n : Nat) (hd : dst < 4294967296) (hs : src < 4294967296) (hn : n < 4294967296) :
    Calls Safg.prog 58 #[.pointer (some ⟨T, 0, none⟩), .int .u32 (dst : Int), .int .u32 (src : Int), .int .u32 (n : Int)] w fun e w' => e = .returned (.bool (hasF F dst n && hasF F src n)) ∧ APost B T w w' bv (moveF F dst src n) := by
  obtain ⟨q, HQ⟩ : ∃ q, Hid (hasF F dst n = q) := ⟨_, rfl⟩
  obtain ⟨r, HR⟩ : ∃ r, Hid (hasF F src n = r) := ⟨_, rfl⟩
  rw [HQ.out, HR.out]
  go_enter Safg.func58, Safg.ntmps58
  go_wp2_with fail
  refine (part_both w B T bv buf base F h dst n hd hn).mono ?_
  rintro e w1 ⟨s1, h1⟩
  have h' := h.same s1
  rcases h1 with ⟨h1, rfl⟩ | ⟨h1, h2, ad, g, lo, rfl, sp⟩
  · obtain rfl : q = false := HQ.out.symm.trans h1
    go_wp2_with fail
    refine (part_both w1 B T bv buf base F h' src n hs hn).mono ?_
    rintro e w2 ⟨s2, h3⟩
    have fin : APost B T w w2 bv (moveF F dst src n) := by
      unfold moveF
      rw [if_neg (by rw [h1]; simp)]
      exact h.stay (s1.trans s2)
    have FIN : Hid (APost B T w w2 bv (moveF F dst src n)) := fin
    clear fin h1
    rcases h3 with ⟨h3, rfl⟩ | ⟨h3, _, ad2, g2, lo2, rfl, _⟩
    all_goals (
      clear h3
      go_wp2
      go_ret
      exact ⟨rfl, FIN.out⟩)
  · obtain rfl : q = true := HQ.out.symm.trans h1
    clear h1
    go_wp2_with fail
    refine (part_both w1 B T bv buf base F h' src n hs hn).mono ?_
    rintro e w2 ⟨s2, ⟨h3, rfl⟩ | ⟨h3, h4, ad2, g2, lo2, rfl, sp2⟩⟩
    · obtain rfl : r = false := HR.out.symm.trans h3
      have FIN : Hid (APost B T w w2 bv (moveF F dst src n)) := by
        show APost B T w w2 bv (moveF F dst src n)
        unfold moveF
        rw [if_neg (by rw [h3]; simp)]
        exact h.stay (s1.trans s2)
      clear h3
      go_wp2
      go_ret
      exact ⟨rfl, FIN.out⟩
    · obtain rfl : r = true := HR.out.symm.trans h3
      clear h3
      have dg := topF_dig h.fok
      have HP : Hid (∀ (w' : World), Same (w1.setCells g lo ((subL (topF F) src n).map byteV)) w' → APost B T w1 w' bv (F.dropLast ++ [layL (topF F) dst (subL (topF F) src n)])) := sp.put _ (subL_length h4) (subL_dig dg)
      have hth : w2.there g lo n := fun j hj => by rw [s2.cell, s2.frozen]; exact sp.there j hj
      have hrd := (sp2.rd h4 dg).cells
      have hsl := subL_length h4
      have hadd := sp.ad
      clear sp sp2 dg
      have HA : Hid (0 < n → ad = some ⟨g, lo, none⟩) := hadd
      clear hadd
      go_wp2_with (refine wpList_copy_mid rfl _ _ rfl ad ad2 g lo n n n n n rfl rfl (Nat.min_self n) HA.out _ hsl hrd hth ?_)
      go_ret
      refine ⟨rfl, ?_⟩
      unfold moveF
      rw [if_pos ⟨HQ.out, HR.out⟩]
      exact APost.after h.ar.lt (s1.below _) (HP.out _ (s2.setCells _ _ _))

/-- What Read answers. -/
def readF (F : List (List Nat)) (off n : Nat) : List Nat := if hasF F off n = true then subL (topF F) off n else []
def RPost (w w' : World) (e : Ending) (r : List Nat) : Prop :=
  ∃ ra, e = .returned (.slice ra r.length r.length) ∧ (r = [] → ra = none) ∧ (r ≠ [] → ∃ g, w.heap.size ≤ g ∧ ra = some ⟨g, 0, none⟩ ∧ Own w' g r) ∧ Below w.heap.size w w'

set_option maxHeartbeats 1000000 in
theorem aRead (w : World) (B T : Nat) (bv : Value) (buf base : List Nat) (F : List (List Nat)) (h : ArF B T w bv buf base F) (off n : Nat) (ho : off < 4294967296) (hn : n < 4294967296) :
    Calls Safg.prog 59 #[.pointer (some ⟨T, 0, none⟩), .int .u32 (off : Int), .int .u32 (n : Int)] w fun e w' => RPost w w' e (readF F off n) := by
  go_enter Safg.func59, Safg.ntmps59
  go_wp2_with fail
  refine (part_both w B T bv buf base F h off n ho hn).mono ?_
  rintro e w1 ⟨s1, ⟨h1, rfl⟩ | ⟨h1, h2, ad, g, lo, rfl, sp⟩⟩
  · have HE : Hid (readF F off n = []) := by
      show _ = _
      unfold readF; rw [if_neg (by rw [h1]; simp)]
    clear h1
    go_wp2
    go_ret
    rw [HE.out]
    exact ⟨none, rfl, fun _ => rfl, fun h => absurd rfl h, s1.below _⟩
  · have HE : Hid (readF F off n = subL (topF F) off n) := by
      show _ = _
      unfold readF; rw [if_pos h1]
    have dg := topF_dig h.fok
    have hrd := sp.rd h2 dg
    have hsl := subL_length h2
    have tl := topF_len h.fok
    clear h1 sp
    by_cases h0 : n = 0
    · subst h0
      go_wp2
      go_ret
      rw [HE.out]
      have : subL (topF F) off 0 = [] := List.eq_nil_of_length_eq_zero hsl
      rw [this]
      exact ⟨none, rfl, fun _ => rfl, fun h => absurd rfl h, s1.below _⟩
    · have h0' : ((n : Int) == 0) = false := by simpa using h0
      go_wp2_with (first | (refine wpList_make_bytes _ rfl _ _ 30 rfl Safg.underlying30 .u32 .u32 _ _ n rfl rfl rfl rfl (by omega) ?_; intro w2 g2 hg2 o2 b2) | (refine wpList_copy_bytes rfl _ _ 30 30 rfl Safg.underlying30 g2 n _ _ _ rfl rfl _ _ (by simp) o2 (hrd.below b2) (by omega) ?_; intro w3 o3 b3))
      go_ret
      rw [HE.out]
      have hsz : w1.heap.size = w.heap.size := by rw [s1.heap]
      refine ⟨some ⟨g2, 0, none⟩, by rw [hsl]; rfl, fun h => ?_, fun _ => ⟨g2, by omega, rfl, o3⟩, ((s1.below _).trans (b2.mono (by omega))).trans (b3.below (by omega))⟩
      exfalso
      rw [h] at hsl
      simp at hsl
      omega

/-- What Write lays: src from its place from, and zeros past its end. -/
def writeL (src : List Nat) (frm n : Nat) : List Nat := (src.drop frm).take n ++ List.replicate (n - ((src.drop frm).take n).length) 0
theorem writeL_length (src : List Nat) (frm n : Nat) : (writeL src frm n).length = n := by simp [writeL]; omega
theorem writeL_dig {src : List Nat} (h : D.Dig src) (frm n : Nat) : D.Dig (writeL src frm n) := by
  intro d hd
  simp only [writeL, List.mem_append] at hd
  rcases hd with hd | hd
  · exact h d (List.mem_of_mem_drop (List.mem_of_mem_take hd))
  · have := List.eq_of_mem_replicate hd; omega
end Go.Proofs.Ygcsaf
