/-
  HELPERS for 'playArena' (18) and 'playMem' (20).
-/
import Derived.Test.YgcsafReach
namespace Go.Proofs.Ygcsaf
open Go.RowKit
set_option linter.unusedVariables false
set_option linter.unusedSimpArgs false

theorem Blk.turn {S : List Nat} {w w' : World} {g : Nat} {cs : List Value} (h : Blk w g cs) (t : Turn S w w') (hn : g ∉ S) : Blk w' g cs :=
  ⟨Nat.lt_of_lt_of_le h.lt t.size, fun j v hv => by rw [t.cell (p := ⟨g, 0 + j, none⟩) h.lt hn]; exact h.cell j v hv, fun o => by rw [t.frozen (p := ⟨g, o, none⟩) h.lt hn]; exact h.free o⟩
theorem Blk.far {w : World} {g g' o : Nat} {cs : List Value} {v : Value} (h : Blk w g cs) (hn : g ≠ g') : Blk (w.setCell ⟨g', o, none⟩ v) g cs :=
  h.turn (setT_turn w g' o v) (by simpa using hn)
theorem Blk.setMid {w : World} {g : Nat} {cs : List Value} (h : Blk w g cs) (o : Nat) (vs : List Value) (hl : o + vs.length ≤ cs.length) : Blk (w.setCells g o vs) g (RowV.laid cs o vs) := by
  have only := Only.setCells (g := g) vs (a := w) (w := w) o (Only.refl g w)
  refine ⟨by rw [only.size]; exact h.lt, fun j v hv => ?_, fun q => by rw [World.frozen?_setCells]; exact h.free q⟩
  rw [Nat.zero_add]
  rw [RowV.laid_get (by omega)] at hv
  by_cases h1 : o ≤ j ∧ j < o + vs.length
  · rw [if_neg (by omega), if_pos h1.2] at hv
    have := World.cell?_setCells_in g vs o w (fun i hi => by
      have := h.get (List.getElem?_eq_getElem (show o + i < cs.length by omega))
      rw [this]; rfl) (j - o) (by omega)
    rw [show o + (j - o) = j by omega] at this
    rw [this, ← hv, List.getElem?_eq_getElem (by omega)]
  · rw [World.cell?_setCells_out g vs o w ⟨g, j, none⟩ (fun _ _ => by show j < o ∨ _ ≤ j; omega)]
    refine h.get ?_
    split at hv
    · exact hv
    · rw [if_neg (by omega)] at hv; exact hv

theorem APost.end_ {B T : Nat} {w w3 w4 w' : World} {bv : Value} {F' : List (List Nat)} (hT : T < w.heap.size) (hbv : ∀ g, bv.ownBlock = some g → g < w.heap.size) (b : Below w.heap.size w w3) (h : APost B T w3 w4 bv F') {S : List Nat} (t : Turn S w4 w') (hS : ∀ i ∈ S, w.heap.size ≤ i ∧ i < w3.heap.size) : APost B T w w' bv F' := by
  obtain ⟨bv', buf', base', ha, hg, ht, hc⟩ := h
  have hTS : T ∉ S := fun hm => by have := hS T hm; omega
  refine ⟨bv', buf', base', ⟨ha.ar.turn t hTS ?_, ha.ok, ha.fr⟩, fun g e => (hg g e).imp id (fun h => Nat.le_trans b.size h), ?_, fun o ho => ?_⟩
  · intro g e hm
    have := hS g hm
    rcases hg g e with h | h
    · have := hbv g h; omega
    · omega
  · exact ((Turn.of_below b (Nat.le_refl _) _).then_ ht (fun i hi _ => hi)).then_ t (fun i hi h => by have := hS i hi; omega)
  · rw [t.cell (p := ⟨T, o, none⟩) ha.ar.lt hTS, hc o ho, b.cell (p := ⟨T, o, none⟩) hT]

theorem MPost.end_ {B T : Nat} {w w3 w4 w' : World} {col : Nat → Nat} {F' : List (List Nat)} (hT : T < w.heap.size) (hcol : ∀ k, w.heap.size ≤ k → col k = 2) (b : Below w.heap.size w w3) (h : MPost B T w3 w4 col F') {S : List Nat} (t : Turn S w4 w') (hS : ∀ i ∈ S, w.heap.size ≤ i ∧ i < w3.heap.size) : MPost B T w w' col F' := by
  obtain ⟨col', fv', fvs', S', hm, hc, ht, hs, ho⟩ := h
  have hTS : T ∉ S := fun hm => by have := hS T hm; omega
  refine ⟨col', fv', fvs', S', hm.keep t (fun k hk => .inr (.inl ?_)) (t.cell (p := ⟨T, 10, none⟩) hm.lt hTS) (fun o => by rw [t.frozen (p := ⟨T, o, none⟩) hm.lt hTS]; exact hm.free o), fun k hk => hc k (Nat.lt_of_lt_of_le hk b.size), ?_, hs, fun o h => ?_⟩
  · have := hS k hk
    rw [hc k this.2, hcol k this.1]
  · exact ((Turn.of_below b (Nat.le_refl _) _).then_ ht (fun i hi _ => hi)).then_ t (fun i hi h => by have := hS i hi; omega)
  · rw [t.cell (p := ⟨T, o, none⟩) hm.lt hTS, ho o h, b.cell (p := ⟨T, o, none⟩) hT]

theorem RdNew.nothing (B : Nat) (w : World) : RdNew B w none [] := ⟨Rd.nil _ _, fun _ => rfl, fun a e => by cases e⟩
theorem RdNew.of {w w4 : World} {ra : Option Addr} {r : List Nat} (hd : D.Dig r) (hnil : r = [] → ra = none) (hown : r ≠ [] → ∃ g, w.heap.size ≤ g ∧ ra = some ⟨g, 0, none⟩ ∧ Own w4 g r) : RdNew w.heap.size w4 ra r := by
  by_cases h0 : r = []
  · subst h0
    rw [hnil rfl]
    exact RdNew.nothing _ _
  · obtain ⟨g, hg, rfl, own⟩ := hown h0
    exact ⟨own.rd hd, fun h => absurd h h0, fun a e => by obtain rfl := Option.some.inj e; exact ⟨hg, h0⟩⟩
theorem RdNew.turn {m : Nat} {w w' : World} {ra : Option Addr} {r : List Nat} (h : RdNew m w ra r) {S : List Nat} (t : Turn S w w') (hS : ∀ i ∈ S, i < m) : RdNew m w' ra r := by
  refine ⟨⟨rfl, fun i hi => ?_, h.rd.dig⟩, h.nil, h.new⟩
  obtain ⟨b, off, e, hb, hc⟩ := h.rd.cell i hi
  have hn : b ∉ S := fun hm => by have := hS b hm; have := (h.new _ e).1; simp at this; omega
  exact ⟨b, off, e, Nat.lt_of_lt_of_le hb t.size, by rw [t.cell (p := ⟨b, off + i, none⟩) hb hn]; exact hc⟩
theorem RdNew.mono {m m' : Nat} {w : World} {ra : Option Addr} {r : List Nat} (h : RdNew m w ra r) (hm : m' ≤ m) : RdNew m' w ra r := ⟨h.rd, h.nil, fun a e => ⟨Nat.le_trans hm (h.new a e).1, (h.new a e).2⟩⟩

theorem results_cell1 {fn : Func} {p : Tmp} {ty : TypeId} (h : fn.results = #[.cell p ty]) (tmps : Array Value) (w : World) (g : Nat) (cs : List Value) (d : TypeDesc) (hp : tmps.getD p undef = .pointer (some ⟨g, 0, none⟩)) (hb : Blk w g cs)
    (hu : Safg.prog.underlying ty = some d) (hd : d.isRow = true) (hi : (Safg.prog.info? ty).map (·.size) = some cs.length) : (results fn tmps).run Safg.prog w = .ok (.agg cs.toArray) w := by
  have hp' : tmps[p]?.getD undef = .pointer (some ⟨g, 0, none⟩) := by simpa using hp
  simp [results, h, hp', asAddr, run_loadVar_mid w g 0 ty cs d hb.cell hu hd hi]

def ans0 : List Value := ansC false 0 (List.replicate 32 0) (.slice none 0 0)
theorem Safg.zero52 : (Safg.prog.info? 52).map (·.zero) = some (some (.agg ans0.toArray)) := by kernel_rfl
theorem Safg.size52a : (Safg.prog.info? 52).map (·.size) = some ans0.length := by kernel_rfl
theorem size52c {ok : Bool} {size : Nat} {word : List Nat} {rv : Value} (h : word.length = 32) : (Safg.prog.info? 52).map (·.size) = some (ansC ok size word rv).length := by rw [ansC_length h]; exact Safg.size52
theorem ans0_len {ok : Bool} {size : Nat} {word : List Nat} {rv : Value} (h : word.length = 32) : (ansC ok size word rv).length = ans0.length := by rw [ansC_length h]; rfl

theorem laid_word {W : List Nat} (h : W.length = 32) : RowV.laid ans0 2 (cellsL W) = ansC false 0 W (.slice none 0 0) := by
  unfold RowV.laid
  rw [cellsL_length, h]
  rfl
theorem Safg.size28' : ∃ a, Safg.prog.info? 28 = some a ∧ a.size = 32 := by simpa using Option.map_eq_some_iff.1 Safg.size28
theorem Same.of_eq {w w' : World} (h : w' = w) : Same w w' := by subst h; exact Same.refl _

theorem wpAnyH_take' {P : Program} {ops : Array Oper} {Q : Exit → Act → World → Prop} {md : Region.Mode} {S : World → Prop} {i d : Nat} {oi : Oper} {v : Value} {fuel : Nat} {listed : Array Bool} {a : Act} {w : World} (hi : ops[i]? = some oi) (hd : oi.dst = some d)
    (hs : Region.noSelect ops = true) (hf : Region.free md ops listed i = true) (hr : (Region.ready md ops listed).contains i = true)
    (hQ : ∀ c a w, Q (.panic c) (a.put (some d) v) w → Q (.panic c) a w) (hy : YieldsIf P ops S oi v a) (hS : S w)
    (h : wpAnyH P md ops Q S fuel (listed.setIfInBounds i true) (a.put (some d) v) w) : wpAnyH P md ops Q S (fuel + 1) listed a w := by
  rw [← hd] at hQ h
  exact wpAnyH_take hi hs hf hr hQ hy hS h
theorem wpAnyH_mono {P : Program} {ops : Array Oper} {Q : Exit → Act → World → Prop} {md : Region.Mode} {S S' : World → Prop} (hS : ∀ w, S' w → S w) : ∀ (fuel : Nat) (listed : Array Bool) (a : Act) (w : World), wpAnyH P md ops Q S' fuel listed a w → wpAnyH P md ops Q S fuel listed a w
  | 0, _, _, _, h => h
  | fuel + 1, _, _, _, h => ⟨h.1, fun i hi => wpOp_mono (fun a' w' h' => ⟨hS _ h'.1, wpAnyH_mono hS fuel _ a' w' h'.2⟩) (h.2 i hi)⟩

theorem aCheck (w : World) (B T : Nat) (bv : Value) (buf base : List Nat) (F : List (List Nat)) (h : ArF B T w bv buf base F) :
    Calls Safg.prog 61 #[.pointer (some ⟨T, 0, none⟩)] w fun e w' => e = .returned (.bool true) ∧ Same w w' := by
  obtain ⟨ad, cp, hbv2⟩ : ∃ ad cp, bv = .slice ad buf.length cp := by
    rcases h.ar.vec with ⟨rfl, hb0⟩ | ⟨g, cap, rfl, _, _, _⟩
    · have : buf = [] := by simpa using hb0
      subst this
      exact ⟨_, _, rfl⟩
    · exact ⟨_, _, by rw [List.length_map]⟩
  subst hbv2
  exact check_true w B T buf.length cp ad buf base F.length h.ar h.ok rfl

theorem APost.blk {B T : Nat} {w w3 w4 : World} {bv : Value} {F' : List (List Nat)} (hT : T < w.heap.size) (hbv : ∀ g, bv.ownBlock = some g → g < w.heap.size) (h : APost B T w3 w4 bv F') {g : Nat} {cs : List Value} (k : Blk w3 g cs) (hg : w.heap.size ≤ g) : Blk w4 g cs := by
  obtain ⟨bv', buf', base', ha, _, ht, hc⟩ := h
  refine k.turn ht ?_
  intro hm
  simp at hm
  rcases hm with e | e
  · omega
  · have := hbv g e; omega
theorem MPost.blk {B T : Nat} {w w3 w4 : World} {col : Nat → Nat} {F' : List (List Nat)} (hcol : ∀ k, w.heap.size ≤ k → col k = 2) (h : MPost B T w3 w4 col F') {g : Nat} {cs : List Value} (k : Blk w3 g cs) (hg : w.heap.size ≤ g) : Blk w4 g cs := by
  obtain ⟨col', fv', fvs', S', hm, hc, ht, hs, ho⟩ := h
  exact k.turn ht (fun hm => (hs g hm).2.1 (hcol g hg))
theorem two_turn {w4 w5 w' : World} {g9 g8 : Nat} (h1 : Only g9 w4 w5) (h2 : Only g8 w5 w') : Turn [g9, g8] w4 w' :=
  ((Turn.of_only h1).mono (by simp)).trans ((Turn.of_only h2).mono (by simp))
end Go.Proofs.Ygcsaf
