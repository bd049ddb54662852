/-
  THE PLAY's STATE: arena, model and counts over the same frames ('St'), and what a step leaves of it.
-/
import Derived.Test.YgcsafJudge
namespace Go.Proofs.Ygcsaf
open Go.RowKit
set_option linter.unusedVariables false
set_option linter.unusedSimpArgs false

structure St (B T : Nat) (w : World) (col : Nat → Nat) (bv wv fv : Value) (fvs : List Value) (buf base words : List Nat) (F : List (List Nat)) : Prop where
  ar : ArF B T w bv buf base F
  md : Md B T w col fv fvs F
  wd : Wd B T w wv words
  rel : WRel words F
  cb : ∀ g, bv.ownBlock = some g → col g = 2
  cw : ∀ g, wv.ownBlock = some g → col g = 3

def Stx (B T : Nat) (w : World) : Prop := ∃ col bv wv fv fvs buf base words F, St B T w col bv wv fv fvs buf base words F

section
variable {B T : Nat} {w w' : World} {col : Nat → Nat} {bv wv fv : Value} {fvs : List Value} {buf base words : List Nat} {F : List (List Nat)}

theorem St.below (h : St B T w col bv wv fv fvs buf base words F) (b : Below w.heap.size w w') : St B T w' col bv wv fv fvs buf base words F :=
  ⟨h.ar.below b, h.md.below b, h.wd.below b, h.rel, h.cb, h.cw⟩

/-- New blocks take the colour c. -/
def recolor (w : World) (col : Nat → Nat) (c : Nat) : Nat → Nat := fun k => if k < w.heap.size then col k else c
theorem recolor_old {w : World} {col : Nat → Nat} {c k : Nat} (h : k < w.heap.size) : recolor w col c k = col k := if_pos h
theorem recolor_new {w : World} {col : Nat → Nat} {c k : Nat} (h : w.heap.size ≤ k) : recolor w col c k = c := if_neg (by omega)

/-- An arena under a turn of none of its cells. -/
theorem ArF.keep (h : ArF B T w bv buf base F) {S : List Nat} (t : Turn S w w') (hS : ∀ g, bv.ownBlock = some g → g ∉ S) (hc : ∀ o, o < 10 → w'.cell? ⟨T, o, none⟩ = w.cell? ⟨T, o, none⟩) (hf : ∀ o, w'.frozen? ⟨T, o, none⟩ = false) : ArF B T w' bv buf base F := by
  refine ⟨⟨Nat.lt_of_lt_of_le h.ar.lt t.size, ?_, fun j hj => ?_, ?_, hf, h.ar.vec.turn t hS, h.ar.ne⟩, h.ok, h.fr⟩
  · rw [hc 0 (by omega)]; exact h.ar.c0
  · rw [hc (1 + j) (by omega)]; exact h.ar.cb j hj
  · rw [hc 9 (by omega)]; exact h.ar.c9

/-- Between the arena's move and the model's: the arena is ahead. -/
structure Mid (B T : Nat) (w w2 : World) (col : Nat → Nat) (bv wv fv : Value) (fvs : List Value) (buf base words : List Nat) (F F' : List (List Nat)) : Prop where
  ar : ArF B T w2 bv buf base F'
  md : Md B T w2 col fv fvs F
  wd : Wd B T w2 wv words
  rel : WRel words F
  cb : ∀ g, bv.ownBlock = some g → col g = 2
  cw : ∀ g, wv.ownBlock = some g → col g = 3
  new : ∀ k, w.heap.size ≤ k → col k = 2
  size : w.heap.size ≤ w2.heap.size

theorem St.arena (h : St B T w col bv wv fv fvs buf base words F) {F' : List (List Nat)} (hp : APost B T w w' bv F') : ∃ bv' buf' base', Mid B T w w' (recolor w col 2) bv' wv fv fvs buf' base' words F F' ∧ Turn (T :: bv.ownBlock.toList) w w' := by
  obtain ⟨bv', buf', base', ha, hg, ht, hc⟩ := hp
  have hwl : ∀ g, wv.ownBlock = some g → g < w.heap.size := fun g e => (h.wd.vec.block_lt e).1
  have hbl : ∀ g, bv.ownBlock = some g → g < w.heap.size := fun g e => (h.ar.ar.vec.block_lt e).1
  have hwn : ∀ g, wv.ownBlock = some g → g ∉ T :: bv.ownBlock.toList := by
    intro g e hm
    simp at hm
    rcases hm with rfl | hm
    · exact h.wd.ne e
    · have h1 := h.cb g hm
      have h2 := h.cw g e
      omega
  refine ⟨bv', buf', base', ⟨ha, (h.md.recol (fun k hk => recolor_old hk)).keep ht ?_ (hc 10 (by omega)) ha.ar.free, h.wd.keep ht hwn (hc 11 (by omega)) ha.ar.free, h.rel, ?_, ?_, fun k hk => recolor_new hk, ht.size⟩, ht⟩
  · intro k hk
    simp at hk
    rcases hk with rfl | hk
    · exact .inl rfl
    · exact .inr (.inl (by rw [recolor_old (hbl k hk)]; exact h.cb k hk))
  · intro g e
    rcases hg g e with e' | e'
    · rw [recolor_old (hbl g e')]; exact h.cb g e'
    · exact recolor_new e'
  · intro g e
    rw [recolor_old (hwl g e)]; exact h.cw g e

theorem Mid.below {w2 : World} {F' : List (List Nat)} (h : Mid B T w w2 col bv wv fv fvs buf base words F F') {w3 : World} (b : Below w2.heap.size w2 w3) : Mid B T w w3 col bv wv fv fvs buf base words F F' :=
  ⟨h.ar.below b, h.md.below b, h.wd.below b, h.rel, h.cb, h.cw, h.new, Nat.le_trans h.size b.size⟩

/-- The model has followed: the counts are behind. -/
structure Late (B T : Nat) (w : World) (col : Nat → Nat) (bv wv fv : Value) (fvs : List Value) (buf base words : List Nat) (F F' : List (List Nat)) : Prop where
  ar : ArF B T w bv buf base F'
  md : Md B T w col fv fvs F'
  wd : Wd B T w wv words
  rel : WRel words F
  cb : ∀ g, bv.ownBlock = some g → col g = 2
  cw : ∀ g, wv.ownBlock = some g → col g = 3

theorem Mid.model {w3 w4 : World} {F' : List (List Nat)} (h : Mid B T w w3 col bv wv fv fvs buf base words F F') (hp : MPost B T w3 w4 col F') : ∃ col' fv' fvs', Late B T w4 col' bv wv fv' fvs' buf base words F F' ∧ (∃ S, Turn S w3 w4 ∧ (∀ k ∈ S, B ≤ k ∧ col k ≠ 2 ∧ col k ≠ 3)) ∧ (∀ k, k < w3.heap.size → col' k = col k) := by
  obtain ⟨col', fv', fvs', S, hm, hc, ht, hs, ho⟩ := hp
  have hbl : ∀ g, bv.ownBlock = some g → g < w3.heap.size := fun g e => (h.ar.ar.vec.block_lt e).1
  have hwl : ∀ g, wv.ownBlock = some g → g < w3.heap.size := fun g e => (h.wd.vec.block_lt e).1
  refine ⟨col', fv', fvs', ⟨h.ar.keep ht (fun g e hm' => (hs g hm').2.1 (h.cb g e)) (fun o hlt => ho o (by omega)) hm.free, hm, h.wd.keep ht (fun g e hm' => (hs g hm').2.2 (h.cw g e)) (ho 11 (by omega)) hm.free, h.rel, fun g e => ?_, fun g e => ?_⟩, ⟨S, ht, hs⟩, hc⟩
  · rw [hc g (hbl g e)]; exact h.cb g e
  · rw [hc g (hwl g e)]; exact h.cw g e

theorem Late.judged {w5 : World} {words' : List Nat} {F' : List (List Nat)} (h : Late B T w col bv wv fv fvs buf base words F F') (hrel : WRel words' F') (hp : WPost B T w w5 wv words') : Stx B T w5 := by
  obtain ⟨wv', hw, hg, ht, hc⟩ := hp
  have hbl : ∀ g, bv.ownBlock = some g → g < w.heap.size := fun g e => (h.ar.ar.vec.block_lt e).1
  have hwl : ∀ g, wv.ownBlock = some g → g < w.heap.size := fun g e => (h.wd.vec.block_lt e).1
  refine ⟨recolor w col 3, bv, wv', fv, fvs, buf, base, words', F', ⟨h.ar.keep ht ?_ (fun o hlt => hc o (by omega)) hw.free, (h.md.recol (fun k hk => recolor_old hk)).keep ht ?_ (hc 10 (by omega)) hw.free, hw, hrel, fun g e => ?_, fun g e => ?_⟩⟩
  · intro g e hm
    simp at hm
    rcases hm with rfl | hm
    · exact h.ar.ar.ne e
    · have h1 := h.cb g e
      have h2 := h.cw g hm
      omega
  · intro k hk
    simp at hk
    rcases hk with rfl | hk
    · exact .inl rfl
    · exact .inr (.inr (by rw [recolor_old (hwl k hk)]; exact h.cw k hk))
  · rw [recolor_old (hbl g e)]; exact h.cb g e
  · rcases hg g e with e' | e'
    · rw [recolor_old (hwl g e')]; exact h.cw g e'
    · exact recolor_new e'
end

/-- The trace as it is made: nothing in it. -/
def trace0 : List Value := [.slice none 0 0, .int .u32 0, .int .u32 0, .int .u32 0, .int .u32 0, .int .u32 0, .int .u32 0, .int .u32 0, .int .u32 0, .int .u8 0, .slice none 0 0, .slice none 0 0]
theorem Safg.zero47 : (Safg.prog.info? 47).map (·.zero) = some (some (.agg trace0.toArray)) := by kernel_rfl

theorem St.start {B T : Nat} {w : World} (h : Blk w T trace0) (hB : B ≤ T) : Stx B T w := by
  refine ⟨fun k => if k = T then 0 else 9, .slice none 0 0, .slice none 0 0, .slice none 0 0, [], [], List.replicate 8 0, [], [], ⟨⟨⟨h.lt, h.get rfl, fun j hj => ?_, h.get rfl, h.free, .inl ⟨rfl, rfl⟩, by simp [Value.ownBlock]⟩, ⟨by decide, rfl, fun i hi => absurd hi (by simp), by decide, by decide, D.Dig.nil, fun i => ?_⟩, fun i l hl => by simp at hl⟩, ⟨hB, h.lt, h.get rfl, h.free, .inl ⟨rfl, rfl⟩, rfl, fun i v l hv => by simp at hv, by simp, fun g e => by simp [Value.ownBlock] at e, fun i v g hv => by simp at hv⟩, ⟨h.lt, h.get rfl, h.free, .inl ⟨rfl, rfl⟩, by simp [Value.ownBlock]⟩, WRel.nil, fun g e => by simp [Value.ownBlock] at e, fun g e => by simp [Value.ownBlock] at e⟩⟩
  · obtain rfl | rfl | rfl | rfl | rfl | rfl | rfl | rfl : j = 0 ∨ j = 1 ∨ j = 2 ∨ j = 3 ∨ j = 4 ∨ j = 5 ∨ j = 6 ∨ j = 7 := by omega
    all_goals exact h.get rfl
  · rw [D.getD_replicate]
    omega
end Go.Proofs.Ygcsaf
