/-
  THE LAW's OWN COUNTS in memory ('Wd') and how they answer to the frames ('WRel').
-/
import Derived.Test.YgcsafPlayM
namespace Go.Proofs.Ygcsaf
open Go.RowKit
set_option linter.unusedVariables false
set_option linter.unusedSimpArgs false

def u32V (x : Nat) : Value := .int .u32 (x : Int)
def WRel (words : List Nat) (F : List (List Nat)) : Prop := words.map (32 * ·) = F.map List.length

theorem WRel.len {words : List Nat} {F : List (List Nat)} (h : WRel words F) : words.length = F.length := by
  have := congrArg List.length h
  simpa using this
theorem WRel.last {words : List Nat} {G : List (List Nat)} {t : List Nat} (h : WRel words (G ++ [t])) : ∃ ws x, words = ws ++ [x] ∧ WRel ws G ∧ 32 * x = t.length := by
  rcases List.eq_nil_or_concat words with rfl | ⟨ws, x, e⟩
  · have := h.len; simp at this
  · have e' : words = ws ++ [x] := by simpa using e
    subst e'
    have h' : ws.map (32 * ·) ++ [32 * x] = G.map List.length ++ [t.length] := by
      have := h
      unfold WRel at this
      simpa using this
    obtain ⟨h1, h2⟩ := List.append_inj' h' rfl
    exact ⟨ws, x, rfl, h1, by simpa using h2⟩
theorem WRel.nil : WRel [] [] := rfl
theorem WRel.push {words : List Nat} {F : List (List Nat)} (h : WRel words F) {x : Nat} {t : List Nat} (hx : 32 * x = t.length) : WRel (words ++ [x]) (F ++ [t]) := by
  unfold WRel at *
  rw [List.map_append, List.map_append, h]
  simp [hx]
theorem WRel.same {words : List Nat} {F F' : List (List Nat)} (h : WRel words F) (he : F'.map List.length = F.map List.length) : WRel words F' := by
  unfold WRel at *
  rw [h, he]

theorem put_len {F : List (List Nat)} {off n : Nat} {news : List Nat} (hn : news.length = n) : (putIf F off n news).map List.length = F.map List.length := by
  unfold putIf
  split
  · rename_i h
    obtain ⟨G, t, rfl, hle⟩ := hasF_true h
    rw [putF_app, List.map_append, List.map_append]
    simp [layL_length (show off + news.length ≤ t.length by omega)]
  · rfl
theorem move_len {F : List (List Nat)} {d s n : Nat} : (moveF F d s n).map List.length = F.map List.length := by
  unfold moveF
  split
  · rename_i h
    have := put_len (F := F) (off := d) (n := n) (news := subL (topF F) s n) (by
      obtain ⟨G, t, rfl, hle⟩ := hasF_true h.2
      rw [topF_app, subL_length hle])
    unfold putIf at this
    rwa [if_pos h.1] at this
  · rfl

/-- What the step leaves of the counts, where it leaves them. -/
theorem step_len {F : List (List Nat)} {k a b n f : Nat} (hk : k ≠ 0 ∧ k ≠ 1 ∧ k ≠ 2) : (stepF F k a b n f).map List.length = F.map List.length := by
  unfold stepF
  split
  · exact absurd rfl hk.1
  · exact absurd rfl hk.2.1
  · exact absurd rfl hk.2.2
  · exact put_len (fillL_length _ _)
  · exact put_len rfl
  · exact move_len
  · exact put_len (writeL_length _ _ _)
  · rfl

/-- The counts' cells: T's cell 11. -/
structure Wd (B T : Nat) (w : World) (wv : Value) (words : List Nat) : Prop where
  lt : T < w.heap.size
  c11 : w.cell? ⟨T, 11, none⟩ = some wv
  free : ∀ o, w.frozen? ⟨T, o, none⟩ = false
  vec : Vec B w wv (words.map u32V)
  ne : wv.ownBlock ≠ some T

def WPost (B T : Nat) (w w' : World) (wv : Value) (words' : List Nat) : Prop :=
  ∃ wv', Wd B T w' wv' words' ∧ (∀ g, wv'.ownBlock = some g → wv.ownBlock = some g ∨ w.heap.size ≤ g) ∧ Turn (T :: wv.ownBlock.toList) w w' ∧ ∀ o, o ≠ 11 → w'.cell? ⟨T, o, none⟩ = w.cell? ⟨T, o, none⟩

theorem Wd.keep {B T : Nat} {w w' : World} {wv : Value} {words : List Nat} (h : Wd B T w wv words) {S : List Nat} (t : Turn S w w') (hS : ∀ g, wv.ownBlock = some g → g ∉ S) (h11 : w'.cell? ⟨T, 11, none⟩ = w.cell? ⟨T, 11, none⟩) (hf : ∀ o, w'.frozen? ⟨T, o, none⟩ = false) : Wd B T w' wv words :=
  ⟨Nat.lt_of_lt_of_le h.lt t.size, by rw [h11]; exact h.c11, hf, h.vec.turn t hS, h.ne⟩
theorem Wd.below {B T : Nat} {w w' : World} {wv : Value} {words : List Nat} (h : Wd B T w wv words) (b : Below w.heap.size w w') : Wd B T w' wv words :=
  h.keep (S := []) (Turn.of_below b (Nat.le_refl _) _) (by simp) (b.cell (p := ⟨T, 11, none⟩) h.lt) (fun o => by rw [b.frozen (p := ⟨T, o, none⟩) h.lt]; exact h.free o)
theorem Wd.grew {B T : Nat} {w w' : World} {wv : Value} {words : List Nat} (h : Wd B T w wv words) (b : Below w.heap.size w w') : WPost B T w w' wv words :=
  ⟨wv, h.below b, fun g e => .inl e, Turn.of_below b (Nat.le_refl _) _, fun o _ => b.cell (p := ⟨T, o, none⟩) h.lt⟩
theorem WPost.after {B T : Nat} {w w1 w' : World} {wv : Value} {words' : List Nat} (hT : T < w.heap.size) (b : Below w.heap.size w w1) (h : WPost B T w1 w' wv words') : WPost B T w w' wv words' := by
  obtain ⟨wv', ha, hg, ht, hc⟩ := h
  exact ⟨wv', ha, fun g e => (hg g e).imp id (fun h => Nat.le_trans b.size h), (Turn.of_below b (Nat.le_refl _) _).then_ ht (fun i hi _ => hi), fun o ho => (hc o ho).trans (b.cell (p := ⟨T, o, none⟩) hT)⟩

theorem Wd.len_of {B T : Nat} {w : World} {wv : Value} {words : List Nat} (h : Wd B T w wv words) : ∃ fa fc, wv = .slice fa words.length fc ∧ words.length ≤ fc ∧ fc ≤ maxLen := by
  have hl : (words.map u32V).length = words.length := by simp
  rcases h.vec with ⟨rfl, e⟩ | ⟨gf, cap, rfl, hB, r, hm⟩
  · have : words = [] := by simpa using e
    subst this
    exact ⟨_, _, rfl, Nat.le_refl _, Nat.zero_le _⟩
  · have := r.le
    rw [hl] at *
    exact ⟨_, _, rfl, this, hm⟩

/-- The last count. -/
theorem Wd.top {B T : Nat} {w : World} {wv : Value} {ws : List Nat} {x : Nat} (h : Wd B T w wv (ws ++ [x])) : ∃ g cap, wv = .slice (some ⟨g, 0, none⟩) (ws.length + 1) cap ∧ w.cell? ⟨g, ws.length, none⟩ = some (u32V x) ∧ w.frozen? ⟨g, ws.length, none⟩ = false ∧ g ≠ T ∧ ws.length + 1 ≤ cap ∧ cap ≤ maxLen ∧ g < w.heap.size ∧ B ≤ g ∧ RowV w g cap ((ws ++ [x]).map u32V) := by
  have hl : ((ws ++ [x]).map u32V).length = ws.length + 1 := by simp
  rcases h.vec with ⟨rfl, e⟩ | ⟨g, cap, rfl, hB, r, hm⟩
  · simp at e
  · have := r.le
    rw [hl] at this
    refine ⟨g, cap, by rw [hl], r.cell ws.length (u32V x) (by simp), r.free _, fun e => h.ne (by rw [e]; rfl), this, hm, r.lt, hB, r⟩

theorem Wd.pop {B T : Nat} {w w' : World} {ws : List Nat} {x g cap : Nat} (h : Wd B T w (.slice (some ⟨g, 0, none⟩) (ws.length + 1) cap) (ws ++ [x])) (hs : Same (w.setCell ⟨T, 11, none⟩ (.slice (some ⟨g, 0, none⟩) ws.length cap)) w') : WPost B T w w' (.slice (some ⟨g, 0, none⟩) (ws.length + 1) cap) ws := by
  obtain ⟨g', cap', e, _, _, hne, hle, hm, hlt, hB, r⟩ := h.top
  simp at e
  obtain ⟨rfl, rfl⟩ := e
  have tt : Turn [T] w w' := (setT_turn w T 11 _).then_ (Turn.of_same hs.os hs.tape hs.output hs.heap [T]) (by simp)
  refine ⟨.slice (some ⟨g, 0, none⟩) ws.length cap, ⟨Nat.lt_of_lt_of_le h.lt tt.size, by rw [hs.cell, setT_cell h.c11, if_pos rfl], fun o => by rw [hs.frozen, World.frozen?_setCell]; exact h.free o, ?_, h.ne⟩, fun q hq => .inl hq, tt.mono (by simp), fun o ho => by rw [hs.cell, setT_cell h.c11, if_neg ho]⟩
  have r2 := (r.take ws.length).turn tt (by simpa using hne)
  have e2 : ((ws ++ [x]).map u32V).take ws.length = ws.map u32V := by
    rw [List.map_append]
    exact List.take_left' (by simp)
  rw [e2] at r2
  exact .inr ⟨g, cap, by simp, hB, r2, hm⟩

theorem Wd.setTop {B T : Nat} {w w' : World} {ws : List Nat} {x y g cap : Nat} (h : Wd B T w (.slice (some ⟨g, 0, none⟩) (ws.length + 1) cap) (ws ++ [x])) (hs : Same (w.setCell ⟨g, ws.length, none⟩ (u32V y)) w') : WPost B T w w' (.slice (some ⟨g, 0, none⟩) (ws.length + 1) cap) (ws ++ [y]) := by
  obtain ⟨g', cap', e, _, _, hne, hle, hm, hlt, hB, r⟩ := h.top
  simp at e
  obtain ⟨rfl, rfl⟩ := e
  have tt : Turn [g] w w' := (setT_turn w g ws.length _).then_ (Turn.of_same hs.os hs.tape hs.output hs.heap [g]) (by simp)
  have hTn : T ∉ [g] := by simpa using hne.symm
  have r2 := r.lay ws.length [u32V y] (by simp) (by simpa using hle)
  have e2 : RowV.laid ((ws ++ [x]).map u32V) ws.length [u32V y] = (ws ++ [y]).map u32V := by
    unfold RowV.laid
    rw [List.map_append, List.map_append, List.take_left' (by simp), List.drop_eq_nil_of_le (by simp)]
    simp
  rw [e2] at r2
  have r3 : RowV w' g cap ((ws ++ [y]).map u32V) := r2.turn (S := []) (Turn.of_same hs.os hs.tape hs.output hs.heap []) (by simp)
  refine ⟨.slice (some ⟨g, 0, none⟩) (ws.length + 1) cap, ⟨Nat.lt_of_lt_of_le h.lt tt.size, by rw [tt.cell (p := ⟨T, 11, none⟩) h.lt hTn]; exact h.c11, fun o => by rw [tt.frozen (p := ⟨T, o, none⟩) h.lt hTn]; exact h.free o, .inr ⟨g, cap, by simp, hB, r3, hm⟩, h.ne⟩, fun q hq => .inl hq, tt.mono (by intro i hi; simp at hi; subst hi; simp [Value.ownBlock]), fun o ho => tt.cell (p := ⟨T, o, none⟩) h.lt hTn⟩

theorem Wd.push {B T : Nat} {w w3 w' : World} {wv : Value} {words : List Nat} (h : Wd B T w wv words) {g cap : Nat} (hB : B ≤ g) (r : RowV w3 g cap (words.map u32V ++ [u32V 0])) (hcm : cap ≤ maxLen) (t : Turn wv.ownBlock.toList w w3)
    (hor : wv.ownBlock = some g ∨ w.heap.size ≤ g) (hs : Same (w3.setCell ⟨T, 11, none⟩ (.slice (some ⟨g, 0, none⟩) (words.length + 1) cap)) w') : WPost B T w w' wv (words ++ [0]) := by
  have hTn : T ∉ wv.ownBlock.toList := by
    intro hm
    simp at hm
    exact h.ne hm
  have hlt3 : T < w3.heap.size := Nat.lt_of_lt_of_le h.lt t.size
  have hgT : g ≠ T := by
    rcases hor with e | e
    · intro e2
      exact h.ne (by rw [e, e2])
    · have := h.lt; omega
  have c11 : w3.cell? ⟨T, 11, none⟩ = some wv := (t.cell (p := ⟨T, 11, none⟩) h.lt hTn).trans h.c11
  have t4 : Turn [T] w3 w' := (setT_turn w3 T 11 _).then_ (Turn.of_same hs.os hs.tape hs.output hs.heap [T]) (by simp)
  have tt : Turn (T :: wv.ownBlock.toList) w w' := (t.mono (S' := T :: wv.ownBlock.toList) (fun i hi => List.mem_cons_of_mem _ hi)).then_ t4 (by simp)
  refine ⟨.slice (some ⟨g, 0, none⟩) (words.length + 1) cap, ⟨Nat.lt_of_lt_of_le h.lt tt.size, by rw [hs.cell, setT_cell c11, if_pos rfl], fun o => by rw [hs.frozen, World.frozen?_setCell, t.frozen (p := ⟨T, o, none⟩) h.lt hTn]; exact h.free o, .inr ⟨g, cap, by simp, hB, ?_, hcm⟩, ?_⟩, ?_, tt, fun o ho => by rw [hs.cell, setT_cell c11, if_neg ho, t.cell (p := ⟨T, o, none⟩) h.lt hTn]⟩
  · rw [List.map_append]
    exact r.turn t4 (by simpa using hgT)
  · intro e
    have : g = T := by simpa [Value.ownBlock] using e
    exact hgT this
  · intro q hq
    have e : g = q := by simpa [Value.ownBlock] using hq
    subst e
    exact hor
end Go.Proofs.Ygcsaf
