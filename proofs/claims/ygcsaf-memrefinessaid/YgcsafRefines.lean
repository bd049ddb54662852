/-
  'MemRefines' (5): true of every script.
-/
import Derived.Test.YgcsafSt
namespace Go.Proofs.Ygcsaf
open Go.RowKit
set_option linter.unusedVariables false
set_option linter.unusedSimpArgs false
attribute [local go_sem ↓] Go.wp_at_zero Go.wp_at_succ

theorem St.fresh {B T : Nat} {w : World} {col : Nat → Nat} {bv wv fv : Value} {fvs : List Value} {buf base words : List Nat} {F : List (List Nat)} (h : St B T w col bv wv fv fvs buf base words F) : St B T w (recolor w col 2) bv wv fv fvs buf base words F :=
  ⟨h.ar, h.md.recol (fun k hk => recolor_old hk), h.wd, h.rel, fun g e => by rw [recolor_old (h.ar.ar.vec.block_lt e).1]; exact h.cb g e, fun g e => by rw [recolor_old (h.wd.vec.block_lt e).1]; exact h.cw g e⟩

theorem Safg.zero49 : (Safg.prog.info? 49).map (·.zero) = some (some (.agg (opC 0 0 0 0 0).toArray)) := by kernel_rfl
theorem size49c (k a b n f : Nat) : (Safg.prog.info? 49).map (·.size) = some (opC k a b n f).length := Safg.size49
theorem opC_one (k a b n f : Nat) : ∀ v ∈ opC k a b n f, v.oneCell' = true := by
  intro v hv
  simp only [opC, List.mem_cons, List.not_mem_nil, or_false] at hv
  rcases hv with rfl | rfl | rfl | rfl | rfl <;> rfl
theorem Safg.sized49 (w : World) : (sizeOf (Safg.prog.elem 37)).run Safg.prog w = .ok 5 w := by kernel_rfl

/-- One operation of the script, as it lies in the caller's memory. -/
structure OpAt (w : World) (ad : Option Addr) (i b off k a bb n f : Nat) : Prop where
  ad : ad = some ⟨b, off, none⟩
  lt : b < w.heap.size
  cells : w.rangeAt b (off + i * 5) (opC k a bb n f)
  hk : k < 256
  ha : a < 4294967296
  hb : bb < 4294967296
  hn : n < 4294967296
  hf : f < 256

/-- All that the round's walk wants of the state, once the operation's copy lies at g5 and the forty bytes at gs. -/
theorem play_step {B T : Nat} {wr w4 : World} {k a bb n f g5 gs : Nat} (stx : Stx B T wr) (hBr : B ≤ wr.heap.size) (b4 : Below wr.heap.size wr w4) (k5 : Blk w4 g5 (opC k a bb n f)) (hg5 : wr.heap.size ≤ g5) (os : Own w4 gs (fillL 40 f)) (hgs : wr.heap.size ≤ gs)
    (hk : k ≤ 10) (ha : a < 4294967296) (hb : bb < 4294967296) (hn : n < 4294967296) (hf : f < 256) :
    ∃ (ok : Bool) (sz : Nat) (W : List Nat) (rl : Nat), W.length = 32 ∧
      Calls Safg.prog 18 #[.pointer (some ⟨T, 0, none⟩), .agg (opC k a bb n f).toArray, .slice (some ⟨gs, 0, none⟩) 40 40, .int .u64 (bb : Int)] w4 fun e w5 => ∃ ra, e = .returned (.agg (ansC ok sz W (.slice ra rl rl)).toArray) ∧ Below B w4 w5 ∧ Blk w5 g5 (opC k a bb n f) ∧
        ∀ w7, Below w5.heap.size w5 w7 → ∀ g7, w5.heap.size ≤ g7 → Blk w7 g7 (ansC ok sz W (.slice ra rl rl)) →
          Calls Safg.prog 20 #[.pointer (some ⟨T, 10, none⟩), .agg (opC k a bb n f).toArray, .slice (some ⟨gs, 0, none⟩) 40 40, .int .u64 (bb : Int)] w7 fun e w8 => ∃ rb, e = .returned (.agg (ansC ok sz W (.slice rb rl rl)).toArray) ∧ Below B w7 w8 ∧ Blk w8 g5 (opC k a bb n f) ∧ Blk w8 g7 (ansC ok sz W (.slice ra rl rl)) ∧
            Calls Safg.prog 19 #[.pointer (some ⟨T, 0, none⟩), .agg (opC k a bb n f).toArray, .agg (ansC ok sz W (.slice ra rl rl)).toArray, .agg (ansC ok sz W (.slice rb rl rl)).toArray] w8 fun e w9 => e = .returned (.bool true) ∧ Below B w8 w9 ∧ Blk w9 g5 (opC k a bb n f) ∧ Blk w9 g7 (ansC ok sz W (.slice ra rl rl)) ∧ Stx B T w9 := by
  obtain ⟨col0, bv, wv, fv, fvs, buf, base, words, F, st0⟩ := stx
  have st1 := st0.fresh
  have hnew : ∀ q, wr.heap.size ≤ q → recolor wr col0 2 q = 2 := fun q hq => recolor_new hq
  generalize recolor wr col0 2 = col at *
  have hTl : T < wr.heap.size := st0.ar.ar.lt
  have hbvl : ∀ g, bv.ownBlock = some g → g < wr.heap.size ∧ B ≤ g := fun g e => st0.ar.ar.vec.block_lt e
  have hwvl : ∀ g, wv.ownBlock = some g → g < wr.heap.size ∧ B ≤ g := fun g e => st0.wd.vec.block_lt e
  have hBT : B ≤ T := st0.md.bT
  have hlow5 : ∀ i ∈ T :: bv.ownBlock.toList, B ≤ i := by
    intro i hi
    simp at hi
    rcases hi with rfl | hi
    · exact hBT
    · exact (hbvl i hi).2
  have hlow9 : ∀ i ∈ T :: wv.ownBlock.toList, B ≤ i := by
    intro i hi
    simp at hi
    rcases hi with rfl | hi
    · exact hBT
    · exact (hwvl i hi).2
  have st := st1.below b4
  have hFk := st.ar.fok
  have hs4 := b4.size
  refine ⟨stepOk F k a bb n, stepSize F k, stepWord F k a, (stepRead F k a n).length, stepWord_length, ?_⟩
  refine (playArena_any w4 B T bv buf base F st.ar (by omega) k a bb n f gs hk ha hb hn hf os).mono ?_
  rintro e w5 ⟨ra, rfl, hra, hp⟩
  obtain ⟨bv', buf', base', mid, t5⟩ := st.arena hp
  have hn5 : ∀ q, wr.heap.size ≤ q → q ∉ T :: bv.ownBlock.toList := by
    intro q hq hm
    simp at hm
    rcases hm with rfl | hm
    · omega
    · have := (hbvl q hm).1; omega
  have k55 := k5.turn t5 (hn5 g5 hg5)
  have os5 := t5.own os (hn5 gs hgs)
  have hs5 := t5.size
  refine ⟨ra, rfl, t5.below (by omega) hlow5, k55, ?_⟩
  intro w7 b7 g7 hg7 k7
  have hs7 := b7.size
  have mid7 := mid.below b7
  have hcol2 : ∀ q, wr.heap.size ≤ q → recolor w4 col 2 q = 2 := by
    intro q hq
    unfold recolor
    split
    · exact hnew q hq
    · rfl
  refine (playMem_any w7 B T _ fv fvs F mid7.md hFk (fun q hq => hcol2 q (by omega)) (by omega) k a bb n f gs hk ha hb hn hf (os5.below b7 os5.lt)).mono ?_
  rintro e w8 ⟨rb, rfl, hrb, hp8⟩
  obtain ⟨col8, fv', fvs', late, ⟨S, t8, hS8⟩, hc8⟩ := mid7.model hp8
  have hn8 : ∀ q, wr.heap.size ≤ q → q ∉ S := fun q hq hm => (hS8 q hm).2.1 (hcol2 q hq)
  have k58 := (k55.below b7 k55.lt).turn t8 (hn8 g5 hg5)
  have k78 := k7.turn t8 (hn8 g7 (by omega))
  have hra8 := (hra.turn (Turn.of_below b7 (Nat.le_refl _) []) (by simp)).turn t8 (fun i hi => by
    by_cases hlt : i < w4.heap.size
    · exact hlt
    · exact absurd hi (hn8 i (by omega)))
  refine ⟨rb, rfl, t8.below (by omega) (fun i hi => (hS8 i hi).1), k58, k78, ?_⟩
  have hs8 := t8.size
  refine (judge_any w8 B T bv' buf' base' F _ late.ar wv words late.wd late.rel hFk (by omega) k a bb n f hk ha hb hn ra rb _ _ hra8 hrb).mono ?_
  rintro e w9 ⟨rfl, words', hrel', hp9⟩
  have stx9 := late.judged hrel' hp9
  obtain ⟨wv', _, _, t9, _⟩ := hp9
  have hn9 : ∀ q, wr.heap.size ≤ q → q ∉ T :: wv.ownBlock.toList := by
    intro q hq hm
    simp at hm
    rcases hm with rfl | hm
    · omega
    · have := (hwvl q hm).1; omega
  exact ⟨rfl, t9.below (by omega) hlow9, k58.turn t9 (hn9 g5 hg5), k78.turn t9 (hn9 g7 (by omega)), stx9⟩
end Go.Proofs.Ygcsaf
