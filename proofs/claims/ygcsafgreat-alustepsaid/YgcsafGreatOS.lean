/-
  The state of 'Open': the machine, the vault, and blocks that stay.
-/
import Derived.Test.YgcsafGreatMF
import Derived.Test.YgcsafGreatVEnd
namespace Go.Proofs.YgcsafGreat
open Go.RowKit
set_option linter.unusedVariables false
set_option linter.unusedSimpArgs false

/-- A block that is none of the vault's. -/
structure Apart (s : Vst) (gv g : Nat) : Prop where
  v : g ≠ gv
  a : s.av.ownBlock ≠ some g
  j : s.jv.ownBlock ≠ some g
theorem Apart.out {s : Vst} {gv g : Nat} (h : Apart s gv g) : g ∉ gv :: (s.av.ownBlock.toList ++ s.jv.ownBlock.toList) := by
  intro hm
  rcases List.mem_cons.1 hm with h1 | h1
  · exact h.v h1
  · rcases List.mem_append.1 h1 with h1 | h1
    · exact h.a (by simpa using h1)
    · exact h.j (by simpa using h1)
theorem Apart.step {s s2 : Vst} {gv g n : Nat} (h : Apart s gv g) (hl : g < n) (ha : s2.av.ownBlock = s.av.ownBlock ∨ ∀ g, s2.av.ownBlock = some g → n ≤ g) (hj : s2.jv.ownBlock = s.jv.ownBlock ∨ ∀ g, s2.jv.ownBlock = some g → n ≤ g) : Apart s2 gv g := by
  refine ⟨h.v, fun e => ?_, fun e => ?_⟩
  · rcases ha with h1 | h1
    · exact h.a (by rw [← h1]; exact e)
    · have := h1 g e; omega
  · rcases hj with h1 | h1
    · exact h.j (by rw [← h1]; exact e)
    · have := h1 g e; omega
/-- What the machine's cells say while it is opened. -/
structure OF (f : Nat → Value) (gv : Nat) : Prop where
  s : f 0 = .pointer (some ⟨gv, 0, none⟩)
  buf : f 1 = .slice none 0 0
  base0 : f 2 = .int .u32 0
  base1 : f 3 = .int .u32 0
  mtop : f 10 = .int .u8 0
  stack : ∀ i, i < 1792 → ∃ x : Nat, f (11 + i) = .int .u64 (x : Int)
  top : f 2258 = .int .i8 (-1)
  ret : f 2259 = .slice none 0 0
  coin : ∀ i v, (cellsL (adr 192))[i]? = some v → f (2260 + i) = v
theorem OF.upd {f : Nat → Value} {gv k : Nat} (h : OF f gv) (hk : 2380 ≤ k) (v : Value) : OF (upd f k v) gv := by
  have e : ∀ o, o < 2380 → YgcsafGreat.upd f k v o = f o := fun o ho => upd_ne _ _ (by omega)
  exact ⟨(e _ (by omega)).trans h.s, (e _ (by omega)).trans h.buf, (e _ (by omega)).trans h.base0, (e _ (by omega)).trans h.base1, (e _ (by omega)).trans h.mtop, fun i hi => by rw [e _ (by omega)]; exact h.stack i hi, (e _ (by omega)).trans h.top, (e _ (by omega)).trans h.ret, fun i v hv => by rw [e _ (by have := MF.cell20 (adr_length _) hv; omega)]; exact h.coin i v hv⟩
theorem OF.updL {f : Nat → Value} {gv k : Nat} (h : OF f gv) (hk : 2380 ≤ k) (vs : List Value) : OF (updL f k vs) gv := by
  have e : ∀ o, o < 2380 → YgcsafGreat.updL f k vs o = f o := fun o ho => updL_out _ _ (by omega)
  exact ⟨(e _ (by omega)).trans h.s, (e _ (by omega)).trans h.buf, (e _ (by omega)).trans h.base0, (e _ (by omega)).trans h.base1, (e _ (by omega)).trans h.mtop, fun i hi => by rw [e _ (by omega)]; exact h.stack i hi, (e _ (by omega)).trans h.top, (e _ (by omega)).trans h.ret, fun i v hv => by rw [e _ (by have := MF.cell20 (adr_length _) hv; omega)]; exact h.coin i v hv⟩
/-- The machine's cells ahead of its Env. -/
def mA (gv : Nat) : List Value := .pointer (some ⟨gv, 0, none⟩) :: .slice none 0 0 :: (List.replicate 8 (.int .u32 0) ++ (.int .u8 0 :: (List.replicate 1792 (.int .u64 0) ++ (frZ ++ (frZ ++ (frZ ++ (frZ ++ (frZ ++ (frZ ++ (frZ ++ [.int .i8 (-1), .slice none 0 0])))))))))) 
def mZ : List Value := cellsL (List.replicate 20 0) ++ (List.replicate 4 (.int .u64 0) ++ ([.int .u8 0, .int .u8 0, .int .u8 0, .int .u64 0, .int .u64 0] ++ (List.replicate 4 (.int .u64 0) ++ ([.int .i32 0, .int .i32 0] ++ cellsL (List.replicate 20 0)))))
set_option maxRecDepth 1000000 in
theorem mN_split (gv : Nat) : mN gv = mA gv ++ (envL ++ mZ) := by kernel_rfl
set_option maxRecDepth 1000000 in
theorem mA_length (gv : Nat) : (mA gv).length = 2260 := by kernel_rfl
theorem mN_env (gv i : Nat) (M R : List Value) (e : envL = M ++ R) {v : Value} (h : M[i]? = some v) : (mN gv)[2260 + i]? = some v := by
  have hi := (List.getElem?_eq_some_iff.1 h).1
  rw [mN_split, List.getElem?_append_right (by rw [mA_length]; omega), mA_length, Nat.add_sub_cancel_left, e, List.append_assoc, List.getElem?_append_left hi]
  exact h
set_option maxRecDepth 1000000 in
theorem OF.new (gv : Nat) : OF (mF gv) gv := by
  refine ⟨rfl, rfl, rfl, rfl, by kernel_rfl, fun i hi => ⟨0, ?_⟩, by kernel_rfl, by kernel_rfl, fun i v hv => ?_⟩
  · have h : (mN gv)[11 + i]? = some (.int .u64 0) := by
      rw [Nat.add_comm]
      show (List.replicate 1792 (Value.int .u64 0) ++ _)[i]? = _
      exact getR hi
    rw [mF, List.getD_eq_getElem?_getD, h]; rfl
  · have hi := MF.cell20 (adr_length _) hv
    rw [mF, List.getD_eq_getElem?_getD, mN_env gv i (cellsL (adr 192)) _ rfl hv]; rfl
/-- The state. -/
structure OS (B : Nat) (w0 w : World) (gm gv : Nat) (f : Nat → Value) (s : Vst) (ks : List (Nat × List Value)) : Prop where
  m : MB w gm f
  v : VOk B w gv s
  o : OF f gv
  am : Apart s gv gm
  ks : ∀ p ∈ ks, Blk w p.1 p.2 ∧ Apart s gv p.1 ∧ p.1 ≠ gm
  base : Below B w0 w
  hB : B ≤ w.heap.size
  hgm : B ≤ gm
  hgv : B ≤ gv
namespace OS
variable {B : Nat} {w0 w w' : World} {gm gv : Nat} {f : Nat → Value} {s s2 : Vst} {ks : List (Nat × List Value)}
theorem blk_turn {S : List Nat} {g : Nat} {cs : List Value} (h : Blk w g cs) (t : Turn S w w') (hn : g ∉ S) : Blk w' g cs :=
  ⟨Nat.lt_of_lt_of_le h.lt t.size, fun j v hv => by rw [t.cell (p := ⟨g, 0 + j, none⟩) h.lt hn]; exact h.cell j v hv, fun o => by rw [t.frozen (p := ⟨g, o, none⟩) h.lt hn]; exact h.free o⟩
theorem below (h : OS B w0 w gm gv f s ks) (b : Below w.heap.size w w') : OS B w0 w' gm gv f s ks :=
  ⟨h.m.below b, h.v.below b, h.o, h.am, fun p hp => by obtain ⟨h1, h2, h3⟩ := h.ks p hp; exact ⟨h1.below b h1.lt, h2, h3⟩, h.base.trans (b.mono h.hB), Nat.le_trans h.hB b.size, h.hgm, h.hgv⟩
theorem drew (h : OS B w0 w gm gv f s ks) : OS B w0 w.drew gm gv f s ks := h.below (Turn.drew_below w)
theorem same (h : OS B w0 w gm gv f s ks) (b : Same w w') : OS B w0 w' gm gv f s ks := h.below (b.below _)
theorem only (h : OS B w0 w gm gv f s ks) (n : Only gm w w') {f' : Nat → Value} (m : MB w' gm f') (o : OF f' gv) : OS B w0 w' gm gv f' s ks :=
  ⟨m, h.v.turn (Turn.of_only n) (by simpa using Ne.symm h.am.v) (fun g hg => by have := h.am.a; simp; rintro rfl; exact this hg) (fun g hg => by have := h.am.j; simp; rintro rfl; exact this hg), o, h.am, fun p hp => by obtain ⟨h1, h2, h3⟩ := h.ks p hp; exact ⟨blk_turn h1 (Turn.of_only n) (by simpa using h3), h2, h3⟩, h.base.trans (n.below h.hgm), by rw [n.size]; exact h.hB, h.hgm, h.hgv⟩
theorem set (h : OS B w0 w gm gv f s ks) {k : Nat} (hk : k < 2435) (hk2 : 2380 ≤ k) (v : Value) : OS B w0 (w.setCell ⟨gm, k, none⟩ v) gm gv (upd f k v) s ks :=
  h.only ((Only.refl _ _).setCell _ _) (h.m.set hk v) (h.o.upd hk2 v)
theorem sets (h : OS B w0 w gm gv f s ks) {k : Nat} (vs : List Value) (hk : k + vs.length ≤ 2435) (hk2 : 2380 ≤ k) : OS B w0 (w.setCells gm k vs) gm gv (updL f k vs) s ks :=
  h.only (Only.setCells _ _ (Only.refl _ _)) (h.m.sets vs hk) (h.o.updL hk2 vs)
theorem vBlk (h : VOk B w gv s) (hgv : B ≤ gv) : ∀ i, i ∈ gv :: (s.av.ownBlock.toList ++ s.jv.ownBlock.toList) → B ≤ i := by
  have ge : ∀ {size k : Nat} {v : Value} {vs : List Value}, VecS size B w v k vs → ∀ g, v.ownBlock = some g → B ≤ g := by
    intro size k v vs h1 g hg
    rcases h1 with ⟨e, _⟩ | ⟨g', cap, e, hB, _⟩
    · rw [e] at hg; simp [Value.ownBlock] at hg
    · rw [e] at hg
      simp [Value.ownBlock] at hg
      omega
  intro i hi
  rcases List.mem_cons.1 hi with rfl | hi
  · exact hgv
  · rcases List.mem_append.1 hi with hi | hi
    · exact ge h.vA i (by simpa using hi)
    · exact ge h.vJ i (by simpa using hi)
theorem vault (h : OS B w0 w gm gv f s ks) (t : Turn (gv :: (s.av.ownBlock.toList ++ s.jv.ownBlock.toList)) w w') (v : VOk B w' gv s2) (ha : s2.av.ownBlock = s.av.ownBlock ∨ ∀ g, s2.av.ownBlock = some g → w.heap.size ≤ g) (hj : s2.jv.ownBlock = s.jv.ownBlock ∨ ∀ g, s2.jv.ownBlock = some g → w.heap.size ≤ g) : OS B w0 w' gm gv f s2 ks :=
  ⟨h.m.turn t h.am.out, v, h.o, h.am.step h.m.lt ha hj, fun p hp => by obtain ⟨h1, h2, h3⟩ := h.ks p hp; exact ⟨blk_turn h1 t h2.out, h2.step h1.lt ha hj, h3⟩, h.base.trans (t.below h.hB (vBlk h.v h.hgv)), Nat.le_trans h.hB t.size, h.hgm, h.hgv⟩
theorem fresh (h : OS B w0 w gm gv f s ks) {g : Nat} (hg : w.heap.size ≤ g) : Apart s gv g ∧ g ≠ gm :=
  ⟨⟨by have := h.v.lt; omega, fun e => by have := h.v.vA.blk e; omega, fun e => by have := h.v.vJ.blk e; omega⟩, by have := h.m.lt; omega⟩
/-- One more block is kept. -/
theorem keep (h : OS B w0 w gm gv f s ks) {g : Nat} {cs : List Value} (k : Blk w g cs) (hf : Apart s gv g ∧ g ≠ gm) : OS B w0 w gm gv f s ((g, cs) :: ks) :=
  ⟨h.m, h.v, h.o, h.am, fun p hp => by
    rcases List.mem_cons.1 hp with rfl | hp
    · exact ⟨k, hf⟩
    · exact h.ks p hp, h.base, h.hB, h.hgm, h.hgv⟩
/-- A fresh block is kept. -/
theorem add (h : OS B w0 w gm gv f s ks) (b : Below w.heap.size w w') {g : Nat} {cs : List Value} (hg : w.heap.size ≤ g) (k : Blk w' g cs) : OS B w0 w' gm gv f s ((g, cs) :: ks) :=
  (h.below b).keep k (h.fresh hg)
theorem blk (h : OS B w0 w gm gv f s ks) {g : Nat} {cs : List Value} (hm : (g, cs) ∈ ks) : Blk w g cs := (h.ks _ hm).1
end OS
end Go.Proofs.YgcsafGreat
