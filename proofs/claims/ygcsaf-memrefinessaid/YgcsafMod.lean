/-
  'mmodel.Mem' in memory ('Md'): its frames are slices of the call's own, each in a block of its own. 'Len' (68), 'has' (97), 'Check' (75).
-/
import Derived.Test.YgcsafMeth3
namespace Go.Proofs.Ygcsaf
open Go.RowKit
set_option linter.unusedVariables false
set_option linter.unusedSimpArgs false

/-- The model's cells: T's cell 10. 'col' tells the blocks apart: T's 0, the row of frames' 1, the arena's buffer's 2, the counts' 3, frame i's i + 4. -/
structure Md (B T : Nat) (w : World) (col : Nat → Nat) (fv : Value) (fvs : List Value) (F : List (List Nat)) : Prop where
  bT : B ≤ T
  lt : T < w.heap.size
  c10 : w.cell? ⟨T, 10, none⟩ = some fv
  free : ∀ o, w.frozen? ⟨T, o, none⟩ = false
  vec : Vec B w fv fvs
  len : fvs.length = F.length
  fr : ∀ (i : Nat) (v : Value) (l : List Nat), fvs[i]? = some v → F[i]? = some l → Vec B w v (l.map byteV)
  cT : col T = 0
  cf : ∀ g, fv.ownBlock = some g → col g = 1
  cv : ∀ (i : Nat) (v : Value) (g : Nat), fvs[i]? = some v → v.ownBlock = some g → col g = i + 4

/-- What a method of the model leaves. -/
def MPost (B T : Nat) (w w' : World) (col : Nat → Nat) (F' : List (List Nat)) : Prop :=
  ∃ col' fv' fvs' S, Md B T w' col' fv' fvs' F' ∧ (∀ k, k < w.heap.size → col' k = col k) ∧ Turn S w w' ∧ (∀ k ∈ S, B ≤ k ∧ col k ≠ 2 ∧ col k ≠ 3) ∧ ∀ o, o ≠ 10 → w'.cell? ⟨T, o, none⟩ = w.cell? ⟨T, o, none⟩

/-- The model stays where what turned is none of its own. -/
theorem Md.keep {B T : Nat} {w w' : World} {col : Nat → Nat} {fv : Value} {fvs : List Value} {F : List (List Nat)} (h : Md B T w col fv fvs F) {S : List Nat} (t : Turn S w w') (hS : ∀ k ∈ S, k = T ∨ col k = 2 ∨ col k = 3)
    (h10 : w'.cell? ⟨T, 10, none⟩ = w.cell? ⟨T, 10, none⟩) (hf : ∀ o, w'.frozen? ⟨T, o, none⟩ = false) : Md B T w' col fv fvs F := by
  refine ⟨h.bT, Nat.lt_of_lt_of_le h.lt t.size, by rw [h10]; exact h.c10, hf, h.vec.turn t ?_, h.len, fun i v l hv hl => (h.fr i v l hv hl).turn t ?_, h.cT, h.cf, h.cv⟩
  · intro g hg hm
    have h1 := h.cf g hg
    rcases hS g hm with rfl | h2 | h2
    · rw [h.cT] at h1; omega
    · omega
    · omega
  · intro g hg hm
    have h1 := h.cv i v g hv hg
    rcases hS g hm with rfl | h2 | h2
    · rw [h.cT] at h1; omega
    · omega
    · omega

/-- Colours count only below the memory's size. -/
theorem Md.recol {B T : Nat} {w : World} {col col' : Nat → Nat} {fv : Value} {fvs : List Value} {F : List (List Nat)} (h : Md B T w col fv fvs F) (hc : ∀ k, k < w.heap.size → col' k = col k) : Md B T w col' fv fvs F := by
  refine ⟨h.bT, h.lt, h.c10, h.free, h.vec, h.len, h.fr, by rw [hc T h.lt]; exact h.cT, fun g hg => ?_, fun i v g hv hg => ?_⟩
  · rw [hc g (h.vec.block_lt hg).1]; exact h.cf g hg
  · have hi : i < fvs.length := (List.getElem?_eq_some_iff.1 hv).1
    rw [hc g ((h.fr i v _ hv (List.getElem?_eq_getElem (by rw [← h.len]; exact hi))).block_lt hg).1]; exact h.cv i v g hv hg

theorem Md.same {B T : Nat} {w w' : World} {col : Nat → Nat} {fv : Value} {fvs : List Value} {F : List (List Nat)} (h : Md B T w col fv fvs F) (s : Same w w') : Md B T w' col fv fvs F :=
  h.keep (S := []) (Turn.of_same s.os s.tape s.output s.heap _) (by simp) (s.cell _) (fun o => by rw [s.frozen]; exact h.free o)
theorem Md.below {B T : Nat} {w w' : World} {col : Nat → Nat} {fv : Value} {fvs : List Value} {F : List (List Nat)} (h : Md B T w col fv fvs F) (b : Below w.heap.size w w') : Md B T w' col fv fvs F :=
  h.keep (S := []) (Turn.of_below b (Nat.le_refl _) _) (by simp) (b.cell (p := ⟨T, 10, none⟩) h.lt) (fun o => by rw [b.frozen (p := ⟨T, o, none⟩) h.lt]; exact h.free o)
theorem Md.grew {B T : Nat} {w w' : World} {col : Nat → Nat} {fv : Value} {fvs : List Value} {F : List (List Nat)} (h : Md B T w col fv fvs F) (b : Below w.heap.size w w') : MPost B T w w' col F :=
  ⟨col, fv, fvs, [], h.below b, fun _ _ => rfl, Turn.of_below b (Nat.le_refl _) _, by simp, fun o _ => b.cell (p := ⟨T, o, none⟩) h.lt⟩
theorem Md.stay {B T : Nat} {w w' : World} {col : Nat → Nat} {fv : Value} {fvs : List Value} {F : List (List Nat)} (h : Md B T w col fv fvs F) (s : Same w w') : MPost B T w w' col F := h.grew (s.below _)
theorem MPost.after {B T : Nat} {w w1 w' : World} {col : Nat → Nat} {F' : List (List Nat)} (hT : T < w.heap.size) (b : Below w.heap.size w w1) (h : MPost B T w1 w' col F') : MPost B T w w' col F' := by
  obtain ⟨col', fv', fvs', S, hm, hc, ht, hs, ho⟩ := h
  exact ⟨col', fv', fvs', S, hm, fun k hk => hc k (Nat.lt_of_lt_of_le hk b.size), (Turn.of_below b (Nat.le_refl _) _).then_ ht (fun i hi _ => hi), hs, fun o h => (ho o h).trans (b.cell (p := ⟨T, o, none⟩) hT)⟩
theorem MPost.then_below {B T : Nat} {w w1 w' : World} {col : Nat → Nat} {F' : List (List Nat)} (hT : T < w.heap.size) (h : MPost B T w w1 col F') (b : Below w1.heap.size w1 w') : MPost B T w w' col F' := by
  obtain ⟨col', fv', fvs', S, hm, hc, ht, hs, ho⟩ := h
  exact ⟨col', fv', fvs', S, hm.below b, hc, ht.then_ (Turn.of_below b (Nat.le_refl _) []) (by simp), hs, fun o h => (b.cell (p := ⟨T, o, none⟩) (Nat.lt_of_lt_of_le hT ht.size)).trans (ho o h)⟩

/-- The top frame t, k frames below it. -/
structure MTop (B T : Nat) (w : World) (col : Nat → Nat) (G : List (List Nat)) (t : List Nat) (gf cap : Nat) (ta : Option Addr) (tc gt : Nat) : Prop where
  c10 : w.cell? ⟨T, 10, none⟩ = some (.slice (some ⟨gf, 0, none⟩) (G.length + 1) cap)
  ck : w.cell? ⟨gf, G.length, none⟩ = some (.slice ta t.length tc)
  fk : w.frozen? ⟨gf, G.length, none⟩ = false
  ltf : gf < w.heap.size
  le : G.length + 1 ≤ cap
  capl : cap ≤ maxLen
  tle : t.length ≤ tc
  tcl : tc ≤ maxLen
  ta : 0 < t.length → ta = some ⟨gt, 0, none⟩
  row : 0 < t.length → RowV w gt tc (t.map byteV)
  neT : 0 < t.length → gt ≠ T
  nef : 0 < t.length → gt ≠ gf
  neTf : T ≠ gf
  bt : 0 < t.length → B ≤ gt
  put : ∀ t', t'.length = t.length → 0 < t.length → ∀ w', Only gt w w' → RowV w' gt tc (t'.map byteV) → MPost B T w w' col (G ++ [t'])

theorem Md.top {B T : Nat} {w : World} {col : Nat → Nat} {fv : Value} {fvs : List Value} {G : List (List Nat)} {t : List Nat} (h : Md B T w col fv fvs (G ++ [t])) : ∃ gf cap ta tc gt, MTop B T w col G t gf cap ta tc gt := by
  have hl := h.len
  have hl' : (G ++ [t]).length = G.length + 1 := by simp
  rw [hl'] at hl
  have hne : fvs ≠ [] := fun e => by rw [e] at hl; simp at hl
  rcases h.vec with ⟨_, e⟩ | ⟨gf, cap, rfl, hB, r, hm⟩
  · exact absurd e hne
  · have hk : G.length < fvs.length := by omega
    have hv := h.fr G.length fvs[G.length] t (List.getElem?_eq_getElem hk) (by simp)
    have ck := r.get hk
    have hcf := h.cf gf rfl
    have hTf : T ≠ gf := fun e => by rw [← e, h.cT] at hcf; omega
    have hle := r.le
    generalize hvv : fvs[G.length] = v at hv ck
    have hvs : fvs[G.length]? = some v := by rw [List.getElem?_eq_getElem hk, hvv]
    have c10 := h.c10
    rw [hl] at c10
    rcases hv with ⟨rfl, e0⟩ | ⟨gt, tc, rfl, hBt, rt, htc⟩
    · have e0' : t = [] := by simpa using e0
      subst e0'
      exact ⟨gf, cap, none, 0, T, c10, ck, r.free _, r.lt, by omega, hm, Nat.le_refl _, Nat.zero_le _, fun h => absurd h (by simp), fun h => absurd h (by simp), fun h => absurd h (by simp), fun h => absurd h (by simp), hTf, fun h => absurd h (by simp), fun _ _ h => absurd h (by simp)⟩
    · have hcv := h.cv G.length _ gt hvs rfl
      have hml : (t.map byteV).length = t.length := by simp
      have hneT : gt ≠ T := fun e => by rw [e, h.cT] at hcv; omega
      have hnef : gt ≠ gf := fun e => by rw [e, hcf] at hcv; omega
      rw [hml] at ck
      have hrl := rt.le
      refine ⟨gf, cap, some ⟨gt, 0, none⟩, tc, gt, c10, ck, r.free _, r.lt, by omega, hm, by omega, htc, fun _ => rfl, fun _ => rt, fun _ => hneT, fun _ => hnef, hTf, fun _ => hBt, fun t' ht' _ w' only rw' => ?_⟩
      have tn : Turn [gt] w w' := Turn.of_only only
      refine ⟨col, _, fvs, [gt], ⟨h.bT, Nat.lt_of_lt_of_le h.lt tn.size, by rw [only.cell (p := ⟨T, 10, none⟩) hneT.symm]; exact h.c10, fun o => by rw [only.frozen (p := ⟨T, o, none⟩) hneT.symm]; exact h.free o, h.vec.turn tn ?_, by rw [hl]; simp, ?_, h.cT, h.cf, h.cv⟩, fun _ _ => rfl, tn, ?_, fun o _ => only.cell (p := ⟨T, o, none⟩) hneT.symm⟩
      · intro g hg hmem
        have e : gf = g := by simpa [Value.ownBlock] using hg
        simp at hmem
        exact hnef (by rw [← hmem, e])
      · intro i v l hv hl2
        by_cases hi : i < G.length
        · rw [List.getElem?_append_left hi] at hl2
          refine (h.fr i v l hv (by rw [List.getElem?_append_left hi]; exact hl2)).turn tn ?_
          intro g hg hmem
          have := h.cv i v g hv hg
          simp at hmem
          rw [hmem, hcv] at this
          omega
        · have hi' : i < (G ++ [t']).length := (List.getElem?_eq_some_iff.1 hl2).1
          simp at hi'
          obtain rfl : i = G.length := by omega
          simp at hl2
          subst hl2
          rw [hvs] at hv
          obtain rfl := Option.some.inj hv
          exact .inr ⟨gt, tc, by simp [ht'], hBt, rw', htc⟩
      · intro k hk
        simp at hk
        subst hk
        exact ⟨hBt, by omega, by omega⟩

theorem Md.none_ {B T : Nat} {w : World} {col : Nat → Nat} {fv : Value} {fvs : List Value} (h : Md B T w col fv fvs []) : ∃ fa fc, fv = .slice fa 0 fc := by
  have hl := h.len
  have e : fvs = [] := List.eq_nil_of_length_eq_zero hl
  subst e
  rcases h.vec with ⟨rfl, _⟩ | ⟨gf, cap, rfl, hB, r, hm⟩
  · exact ⟨_, _, rfl⟩
  · exact ⟨_, _, rfl⟩

set_option maxHeartbeats 1000000 in
theorem mLen (w : World) (B T : Nat) (col : Nat → Nat) (fv : Value) (fvs : List Value) (F : List (List Nat)) (h : Md B T w col fv fvs F) (hF : FOk F) :
    Calls Safg.prog 68 #[.pointer (some ⟨T, 10, none⟩)] w fun e w' => e = .returned (.int .u32 ((topF F).length : Int)) ∧ Same w w' := by
  rcases split_last F with rfl | ⟨G, t, rfl⟩
  · obtain ⟨fa, fc, rfl⟩ := h.none_
    have c10 := h.c10
    clear h
    go_enter Safg.func68, Safg.ntmps68
    go_wp2
    go_ret
    exact ⟨rfl, Same.refl _⟩
  · obtain ⟨gf, cap, ta, tc, gt, m⟩ := h.top
    have c10 := m.c10
    have ck := m.ck
    have ht := topF_len hF
    rw [topF_app] at ht
    rw [topF_app]
    have hcap := m.le
    have hml : maxLen = 9223372036854775807 := rfl
    have hcl := m.capl
    generalize G.length = k at *
    have t0 : (((k : Int) + 1) == 0) = false := by simp; omega
    generalize t.length = n at *
    clear m h hF
    go_enter Safg.func68, Safg.ntmps68
    go_upto_region 3 with fail
    go_quiet (fail)
    go_wp2_with fail
    go_ret
    exact ⟨rfl, Same.drewN _ _⟩
end Go.Proofs.Ygcsaf
