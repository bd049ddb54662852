/-
  ROWS OF BYTES that grow: 'make' with room, '[]byte{b}', 'append'; 'law.copyBytes' (11), 'law.push32' (7), 'law.join' (6).
-/
import Derived.Test.YgcsafGreatVNew
namespace Go.Proofs.YgcsafGreat
open Go.RowKit
set_option linter.unusedVariables false
set_option linter.unusedSimpArgs false

/-- A row of bytes of the call's own, with room. -/
def RowB (w : World) (g cap : Nat) (L : List Nat) : Prop := RowV w g cap (cellsL L) ∧ cap ≤ maxLen
theorem RowB.own {w : World} {g cap : Nat} {L : List Nat} (h : RowB w g cap L) : Own w g L :=
  ⟨h.1.lt, fun j hj => h.1.cell j _ (by unfold cellsL; rw [List.getElem?_map, List.getElem?_eq_getElem hj, List.getD_eq_getElem?_getD, List.getElem?_eq_getElem hj]; rfl), h.1.free⟩
theorem RowB.turn {S : List Nat} {w w' : World} {g cap : Nat} {L : List Nat} (h : RowB w g cap L) (t : Turn S w w') (hn : g ∉ S) : RowB w' g cap L := ⟨h.1.turn t hn, h.2⟩
theorem RowB.below {w w' : World} {g cap : Nat} {L : List Nat} (h : RowB w g cap L) (b : Below w.heap.size w w') : RowB w' g cap L := h.turn (Turn.of_below b (Nat.le_refl _) []) (by simp)
theorem info5' : ∃ i z, Safg.prog.info? 5 = some i ∧ i.zero = some z ∧ i.size = 1 ∧ i.bytes = 1 ∧ z.cells.size = 1 := by
  obtain ⟨i, h2, h3, h4, h5⟩ := info_parts Safg.info5
  exact ⟨i, _, h2, h3, by rw [h4], h5, rfl⟩
theorem wpList_make_room (w : World) {ops : Array Oper} {rest : List Oper} {o : Oper} {a : Act} {Q : Exit → Act → World → Prop}
    (hg : o.guard = none) (l c : Operand) (t : TypeId) (hop : o.op = Op.makeSlice t l c) (h1 : Safg.prog.underlying t = some (.slice 5))
    (kl kc : IntKind) (C : Int) (n : Nat) (hl : a.eval l = .int kl 0) (hc : a.eval c = .int kc C) (hC : C = (n : Int)) (b2 : n ≤ 281474976710656)
    (hK : ∀ w' g, w.heap.size ≤ g → RowB w' g n [] → Below w.heap.size w w' → wpList Safg.prog ops Q rest (a.put o.dst (.slice (some ⟨g, 0, none⟩) 0 n)) w') :
    wpList Safg.prog ops Q (o :: rest) a w := by
  refine wpList_plain hg fun K hK' => ?_
  obtain ⟨i, h2, h3, h4, h5⟩ := info_parts Safg.info5
  have hrun := run_make (P := Safg.prog) w t 5 i _ h1 h2 h3 kl kc (0 : Int) (n : Int) (by omega) (by omega) (by rw [h5]; omega) (by omega)
  subst hC
  unfold Oper.wp
  simp [execOp, hop, hl, hc, hrun, Result.andThen]
  refine hK' _ _ (hK _ _ (Nat.le_refl _) ?_ ?_)
  · have ho := Own.made w n
    rw [h4]
    refine ⟨⟨ho.lt, Nat.zero_le _, fun j v hv => (by cases hv), fun j hj => ?_, ho.free⟩, by show n ≤ _; unfold maxLen; omega⟩
    rw [ho.cell j (by simpa using hj)]; rfl
  · exact (Below.refl _ _).alloc (Nat.le_refl _) _
set_option maxRecDepth 10000 in
theorem wpList_append_bytes {w : World} {ops : Array Oper} {rest : List Oper} {o : Oper} {a : Act} {Q : Exit → Act → World → Prop} (hgd : o.guard = none) (s x : Operand)
    (ho : o.op = .call { callee := .builtin .append, args := #[s, x], argTypes := #[26, 26] }) (g k cap : Nat) (L : List Nat) (hs : a.eval s = .slice (some ⟨g, 0, none⟩) k cap) (hk : L.length = k) (hr : RowB w g cap L)
    (ad : Addr) (m c : Nat) (M : List Nat) (hx : a.eval x = .slice (some ad) m c) (hM : Rd w (some ad) m M) (hm : 0 < m) (h63 : k + m ≤ 1048576)
    (h : ∀ g' cap' w', RowB w' g' cap' (L ++ M) → k + m ≤ cap' → Turn [g] w w' → (g = g' ∨ w.heap.size ≤ g') → wpList Safg.prog ops Q rest (a.put o.dst (.slice (some ⟨g', 0, none⟩) (k + m) cap')) w') :
    wpList Safg.prog ops Q (o :: rest) a w := by
  obtain ⟨i, z, hi, hz, hsz, hby, hzs⟩ := info5'
  have hle : L.length ≤ cap := by have := hr.1.le; rwa [cellsL_length] at this
  refine wpList_append_vecS hgd s x 26 ho 0 5 i z 1 1 (by kernel_rfl) hi hz hsz hby hzs (by omega) _ k (cellsL L) hs (.inr ⟨g, cap, rfl, Nat.zero_le _, by rw [Nat.mul_one]; exact hr.1, by rw [cellsL_length, hk, Nat.mul_one], by omega, hr.2⟩) ad m c (cellsL M) hx (by rw [cellsL_length, hM.length, Nat.mul_one]) (fun j u hu => ?_) (fun u hu => ?_) hm (by unfold maxLen; omega) (by omega) (Nat.zero_le _) ?_
  · unfold cellsL at hu
    rw [List.getElem?_map] at hu
    obtain ⟨y, hy, rfl⟩ := Option.map_eq_some_iff.1 hu
    have hj := (List.getElem?_eq_some_iff.1 hy).1
    obtain ⟨b, off, h1, h2, h3⟩ := hM.cell j (by have := hM.length; omega)
    injection h1 with h1
    rw [h1, Addr.add_mid, h3, List.getD_eq_getElem?_getD, hy]; rfl
  · unfold cellsL at hu
    obtain ⟨y, _, rfl⟩ := List.mem_map.1 hu
    rfl
  · intro g' cap' w' _ r' h1 h2 t hor
    refine h g' cap' w' ⟨by rw [Nat.mul_one] at r'; unfold cellsL at r' ⊢; rw [List.map_append]; exact r', h2⟩ h1 t ?_
    rcases hor with h3 | h3
    · injection h3 with h3; exact .inl h3
    · exact .inr h3

/-- '[]T{v}'. -/
theorem wpList_slice1v {w : World} {ops : Array Oper} {rest : List Oper} {o : Oper} {a : Act} {Q : Exit → Act → World → Prop} (hgd : o.guard = none) (t e : TypeId) (x : Operand) (ho : o.op = .buildSlice t 1 #[(0, x)]) (v : Value) (cs : List Value) (hx : a.eval x = v) (hv : v.cells = cs.toArray)
    (hu : Safg.prog.underlying t = some (.slice e)) (hsz : (Safg.prog.info? e).map (·.size) = some cs.length) (hz : ((Safg.prog.info? e).bind (·.zero)).map (·.cells.size) = some cs.length) (hpos : 0 < cs.length) (hsmall : cs.length ≤ 65536)
    (hK : ∀ w' g, w.heap.size ≤ g → Blk w' g cs → Below w.heap.size w w' → wpList Safg.prog ops Q rest (a.put o.dst (.slice (some ⟨g, 0, none⟩) 1 1)) w') :
    wpList Safg.prog ops Q (o :: rest) a w := by
  obtain ⟨ie, hie, hs⟩ := Option.map_eq_some_iff.1 hsz
  rw [hie] at hz
  obtain ⟨z, hzz, hzs⟩ := Option.map_eq_some_iff.1 hz
  have hzz' : ie.zero = some z := by simpa using hzz
  refine wpList_buildSlice hgd t e 1 _ ho cs.toArray ie z hu hie hzz' (by rw [hs]; omega) (by rw [hs]; omega) ?_ ?_
  · have hp : (#[(0, x)].map fun (i, x) => (i, a.eval x)).toList = ([v].zipIdx 0).map fun x => (x.2, x.1) := by
      simp [hx]
    have := Great.fill_whole (s := ie.size) (by rw [hs]; omega) [v] ((Array.range (1 * ie.size)).map (z.cells[· % z.cells.size]!)) (by simp [hv, hs]) (by simp)
    rw [hp]
    simpa [hv] using this
  · exact hK _ _ (Nat.le_refl _) (Blk.alloc w cs e) ((Below.refl _ _).alloc (Nat.le_refl _) _)
theorem RowB.of_blk {w : World} {g : Nat} {L : List Nat} (h : Blk w g (cellsL L)) (hm : L.length ≤ 65536) : RowB w g L.length L :=
  ⟨⟨h.lt, Nat.le_of_eq (cellsL_length L), fun j v hv => h.get hv, fun j hj => by
    have : j < (cellsL L).length := by rw [cellsL_length]; exact hj
    rw [h.get (List.getElem?_eq_getElem this)]; rfl, h.free⟩, by unfold maxLen; omega⟩
theorem Safg.zcells5 : ((Safg.prog.info? 5).bind (·.zero)).map (·.cells.size) = some 1 := by kernel_rfl

set_option maxRecDepth 100000 in
set_option maxHeartbeats 2000000 in
theorem copyBytes_any (w : World) (a : Addr) (n c : Nat) (L : List Nat) (h : Rd w (some a) n L) (hn : 0 < n) (hm : n ≤ 65536) :
    Calls Safg.prog 11 #[.slice (some a) n c] w fun e w' => ∃ g, e = .returned (.slice (some ⟨g, 0, none⟩) n n) ∧ w.heap.size ≤ g ∧ Own w' g L ∧ Below w.heap.size w w' := by
  have hl := h.length
  have r1 : ∀ w, (binOp .eql 26 (.slice (some a) n c) (.slice none 0 0)).run Safg.prog w = .ok (.bool false) w := fun w => by rfl
  go_enter Safg.func11, Safg.ntmps11
  go_upto_region 4 with (refine wpList_make_bytes _ rfl _ _ 26 rfl Safg.underlying26 .i64 .i64 _ _ n rfl rfl rfl rfl (by omega) ?_; intro w1 g hg o1 b1)
  go_wp2_with (refine wpList_copy_bytes rfl _ _ 26 26 rfl Safg.underlying26 g n n c (some a) rfl rfl (List.replicate n 0) L (by simp) o1 (h.below b1) hn ?_; intro w2 o2 n2)
  go_ret
  exact ⟨g, rfl, hg, o2, b1.trans (n2.below hg)⟩
set_option maxRecDepth 100000 in
set_option maxHeartbeats 2000000 in
theorem push32_any (w : World) (L : List Nat) (hL : L.length = 32) (dL : D.Dig L) :
    Calls Safg.prog 7 #[arrV L] w fun e w' => ∃ g c, e = .returned (.slice (some ⟨g, 0, none⟩) 33 c) ∧ w.heap.size ≤ g ∧ Own w' g (127 :: L) ∧ Below w.heap.size w w' := by
  go_enter Safg.func7, Safg.ntmps7
  go_upto_region 1 with (refine wpList_box_arr rfl 22 (.tmp 0) rfl L rfl ?_; intro w1 g1 hg1 o1 b1)
  have l1 := o1.lt
  go_wp2_with (first | (refine wpList_slice1v rfl 26 5 (.const (.int .u8 127)) rfl (.int .u8 127) (cellsL [127]) rfl rfl Safg.underlying26 Safg.size5 Safg.zcells5 (by show 0 < 1; omega) (by show 1 ≤ 65536; omega) ?_; intro w2 g2 hg2 k2 b2; have o2 := o1.below b2 o1.lt) | (refine wpList_append_bytes rfl (.tmp 3) (.tmp 4) rfl g2 1 1 [127] rfl rfl (RowB.of_blk k2 (by simp)) ⟨g1, 0, none⟩ 32 32 L rfl (by rw [← hL]; exact o2.rd dL) (by omega) (by omega) ?_; intro g3 c3 w3 r3 h3 t3 hor3))
  go_ret
  refine ⟨g3, c3, rfl, ?_, r3.own, b1.trans (b2.mono b1.size |>.trans (t3.below (Nat.le_trans b1.size b2.size) ?_))⟩
  · have := b1.size
    rcases hor3 with rfl | h
    · omega
    · have := b2.size; omega
  · intro q hq
    obtain rfl : q = g2 := by simpa using hq
    have := b1.size; omega

theorem below_step {w w1 w2 : World} {g : Nat} (b : Below w.heap.size w w1) (t : Turn [g] w1 w2) (hg : w.heap.size ≤ g) : Below w.heap.size w w2 :=
  b.trans (t.below b.size (by intro q hq; obtain rfl : q = g := (by simpa using hq); exact hg))
theorem fresh_step {w w1 : World} {g g' : Nat} (b : Below w.heap.size w w1) (hg : w.heap.size ≤ g) (h : g = g' ∨ w1.heap.size ≤ g') : w.heap.size ≤ g' := by
  have := b.size
  rcases h with rfl | h <;> omega
set_option maxRecDepth 100000 in
set_option maxHeartbeats 2000000 in
theorem join_any (w : World) (a0 a1 a2 a3 : Addr) (c0 c1 c2 c3 : Nat) (L0 L1 L2 L3 : List Nat) (h0 : Rd w (some a0) 33 L0) (h1 : Rd w (some a1) 33 L1) (h2 : Rd w (some a2) 33 L2) (h3 : Rd w (some a3) 1 L3) :
    Calls Safg.prog 6 #[.slice (some a0) 33 c0, .slice (some a1) 33 c1, .slice (some a2) 33 c2, .slice (some a3) 1 c3] w fun e w' => ∃ g c, e = .returned (.slice (some ⟨g, 0, none⟩) 100 c) ∧ w.heap.size ≤ g ∧ Own w' g (L0 ++ L1 ++ L2 ++ L3) ∧ Below w.heap.size w w' := by
  have l0 := h0.length; have l1 := h1.length; have l2 := h2.length; have l3 := h3.length
  have keep : ∀ {w2 : World} {a : Addr} {n : Nat} {L : List Nat}, Rd w (some a) n L → Below w.heap.size w w2 → Rd w2 (some a) n L := fun h b => h.turn' (Turn.of_below b (Nat.le_refl _) []) (by simp)
  go_enter Safg.func6, Safg.ntmps6
  go_upto_region 2 with (refine wpList_make_room _ rfl _ _ 26 rfl Safg.underlying26 .i64 .i64 _ 100 rfl rfl rfl (by omega) ?_; intro w1 g1 hg1 r1 b1)
  go_wp2_with (first | (refine wpList_append_bytes rfl (.tmp 22) (.tmp 23) rfl g1 0 100 (([] : List Nat)) rfl (by simp [l0, l1, l2, l3]) r1 a0 33 c0 L0 rfl (keep h0 b1) (by omega) (by omega) ?_; intro g2 d2 w2 r2 q2 t2 hor2; have b2 := below_step b1 t2 hg1; have hg2 := fresh_step b1 hg1 hor2) | (refine wpList_append_bytes rfl (.tmp 25) (.tmp 26) rfl g2 33 d2 (([] : List Nat) ++ L0) rfl (by simp [l0, l1, l2, l3]) r2 a1 33 c1 L1 rfl (keep h1 b2) (by omega) (by omega) ?_; intro g3 d3 w3 r3 q3 t3 hor3; have b3 := below_step b2 t3 hg2; have hg3 := fresh_step b2 hg2 hor3) | (refine wpList_append_bytes rfl (.tmp 28) (.tmp 29) rfl g3 66 d3 (([] : List Nat) ++ L0 ++ L1) rfl (by simp [l0, l1, l2, l3]) r3 a2 33 c2 L2 rfl (keep h2 b3) (by omega) (by omega) ?_; intro g4 d4 w4 r4 q4 t4 hor4; have b4 := below_step b3 t4 hg3; have hg4 := fresh_step b3 hg3 hor4) | (refine wpList_append_bytes rfl (.tmp 31) (.tmp 32) rfl g4 99 d4 (([] : List Nat) ++ L0 ++ L1 ++ L2) rfl (by simp [l0, l1, l2, l3]) r4 a3 1 c3 L3 rfl (keep h3 b4) (by omega) (by omega) ?_; intro g5 d5 w5 r5 q5 t5 hor5; have b5 := below_step b4 t5 hg4; have hg5 := fresh_step b4 hg4 hor5))
  go_ret
  exact ⟨g5, d5, rfl, hg5, by have := r5.own; simpa using this, b5⟩
end Go.Proofs.YgcsafGreat
