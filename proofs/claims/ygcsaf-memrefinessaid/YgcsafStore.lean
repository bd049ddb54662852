/-
  THE ARENA AS A LIST OF FRAMES: 'ArF'; what a store into the top frame leaves ('Spot'); 'part' once more, in those words.
-/
import Derived.Test.YgcsafCheck3
import Derived.Test.YgcsafClear
namespace Go.Proofs.Ygcsaf
open Go.RowKit
set_option linter.unusedVariables false
set_option linter.unusedSimpArgs false

/-- news laid over l at off. -/
def layL (l : List Nat) (off : Nat) (news : List Nat) : List Nat := l.take off ++ (news ++ l.drop (off + news.length))

theorem layL_map (l : List Nat) (off : Nat) (news : List Nat) : RowV.laid (l.map byteV) off (news.map byteV) = (layL l off news).map byteV := by
  simp [RowV.laid, layL, List.map_take, List.map_drop]
theorem layL_length {l : List Nat} {off : Nat} {news : List Nat} (h : off + news.length ≤ l.length) : (layL l off news).length = l.length := by
  simp [layL]; omega
theorem layL_nil {l : List Nat} {off : Nat} : layL l off [] = l := by
  simp [layL]
theorem layL_dig {l : List Nat} {off : Nat} {news : List Nat} (h : D.Dig l) (hn : D.Dig news) : D.Dig (layL l off news) := by
  intro d hd
  simp only [layL, List.mem_append] at hd
  rcases hd with hd | hd | hd
  · exact h d (List.mem_of_mem_take hd)
  · exact hn d hd
  · exact h d (List.mem_of_mem_drop hd)
theorem layL_get {l news : List Nat} {off : Nat} (ho : off ≤ l.length) (j : Nat) : (layL l off news)[j]? = if j < off then l[j]? else if j < off + news.length then news[j - off]? else l[j]? := by
  unfold layL
  rw [List.getElem?_append, List.getElem?_append, List.getElem?_drop, List.getElem?_take]
  simp only [List.length_take, Nat.min_eq_left ho]
  split
  · rfl
  · split
    · rw [if_pos (by omega)]
    · rw [if_neg (by omega)]; congr 1; omega

/-- The piece of buf from lo up to hi. -/
def cutL (buf : List Nat) (lo hi : Nat) : List Nat := (buf.drop lo).take (hi - lo)
theorem cutL_length {buf : List Nat} {lo hi : Nat} (h : hi ≤ buf.length) : (cutL buf lo hi).length = hi - lo := by
  simp [cutL]; omega
theorem cutL_get (buf : List Nat) (lo hi j : Nat) : (cutL buf lo hi)[j]? = if j < hi - lo then buf[lo + j]? else none := by
  unfold cutL
  rw [List.getElem?_take]
  split
  · rw [List.getElem?_drop]
  · rfl
theorem cutL_getD {buf : List Nat} {lo hi j : Nat} (h : j < hi - lo) : (cutL buf lo hi).getD j 0 = buf.getD (lo + j) 0 := by
  rw [List.getD_eq_getElem?_getD, cutL_get, if_pos h, List.getD_eq_getElem?_getD]
theorem RowV.byte {w : World} {g cap : Nat} {buf : List Nat} (r : RowV w g cap (buf.map byteV)) {j : Nat} (hj : j < buf.length) : w.cell? ⟨g, j, none⟩ = some (byteV (buf.getD j 0)) :=
  r.cell j _ (by rw [List.getElem?_map, List.getElem?_eq_getElem hj, List.getD_eq_getElem?_getD, List.getElem?_eq_getElem hj]; rfl)
theorem cutL_lay_far {buf news : List Nat} {off lo hi : Nat} (ho : off + news.length ≤ buf.length) (h : hi ≤ off) : cutL (layL buf off news) lo hi = cutL buf lo hi := by
  apply List.ext_getElem?
  intro j
  rw [cutL_get, cutL_get, layL_get (by omega)]
  split
  · rw [if_pos (by omega)]
  · rfl
theorem cutL_lay {buf news : List Nat} {off lo hi : Nat} (ho : lo + off + news.length ≤ hi) (hb : hi ≤ buf.length) : cutL (layL buf (lo + off) news) lo hi = layL (cutL buf lo hi) off news := by
  apply List.ext_getElem?
  intro j
  rw [cutL_get, layL_get (by omega), layL_get (by rw [cutL_length hb]; omega), cutL_get]
  by_cases h1 : j < off
  · rw [if_pos (by omega), if_pos (by omega), if_pos h1, if_pos (by omega)]
  · by_cases h2 : j < off + news.length
    · rw [if_pos (by omega), if_neg (by omega), if_pos (by omega), if_neg h1, if_pos h2]
      congr 1; omega
    · by_cases h3 : j < hi - lo
      · rw [if_pos h3, if_neg (by omega), if_neg (by omega), if_neg h1, if_neg h2, if_pos h3]
      · rw [if_neg h3, if_neg h1, if_neg h2, if_neg h3]

theorem ArOk.mono {buf base : List Nat} {top : Nat} (h : ArOk buf base top) : ∀ (j i : Nat), i ≤ j → j ≤ top → base.getD i 0 ≤ base.getD j 0
  | 0, i, hij, hj => by
    obtain rfl : i = 0 := by omega
    exact Nat.le_refl _
  | j + 1, i, hij, hj => by
    by_cases e : i = j + 1
    · subst e; exact Nat.le_refl _
    · exact Nat.le_trans (h.mono j i (by omega) (by omega)) (h.up j (by omega)).1
theorem ArOk.bound {buf base : List Nat} {top : Nat} (h : ArOk buf base top) : ∀ (j : Nat), j ≤ top → base.getD j 0 ≤ 717280 * j
  | 0, hj => by have := h.zero; omega
  | j + 1, hj => by
    have := h.bound j (by omega)
    have := h.up j (by omega)
    omega

/-- The arena's frames are F. -/
structure ArF (B T : Nat) (w : World) (bv : Value) (buf base : List Nat) (F : List (List Nat)) : Prop where
  ar : Ar B T w bv buf base F.length
  ok : ArOk buf base F.length
  fr : ∀ i l, F[i]? = some l → l = cutL buf (base.getD i 0) (base.getD (i + 1) 0)

/-- What is known of frames as such. -/
structure FOk (F : List (List Nat)) : Prop where
  few : F.length ≤ 7
  low : ∀ l ∈ F, l.length ≤ 717280
  dig : ∀ l ∈ F, D.Dig l
  whole : ∀ l ∈ F, l.length % 32 = 0

theorem ArF.fok {B T : Nat} {w : World} {bv : Value} {buf base : List Nat} {F : List (List Nat)} (h : ArF B T w bv buf base F) : FOk F := by
  have key : ∀ l ∈ F, l.length ≤ 717280 ∧ D.Dig l ∧ l.length % 32 = 0 := by
    intro l hl
    obtain ⟨i, hi, rfl⟩ := List.mem_iff_getElem.1 hl
    rw [h.fr i _ (List.getElem?_eq_getElem hi)]
    have := h.ok.up i hi
    have h2 := h.ok.mono F.length (i + 1) hi (Nat.le_refl _)
    have := h.ok.fits
    rw [cutL_length (by omega)]
    refine ⟨by omega, ?_, by omega⟩
    intro d hd
    exact h.ok.dig d (List.mem_of_mem_drop (List.mem_of_mem_take hd))
  exact ⟨h.ok.top_le, fun l hl => (key l hl).1, fun l hl => (key l hl).2.1, fun l hl => (key l hl).2.2⟩

/-- What an arena's method leaves. -/
def APost (B T : Nat) (w w' : World) (bv : Value) (F' : List (List Nat)) : Prop :=
  ∃ bv' buf' base', ArF B T w' bv' buf' base' F' ∧ (∀ g, bv'.ownBlock = some g → bv.ownBlock = some g ∨ w.heap.size ≤ g) ∧ Turn (T :: bv.ownBlock.toList) w w' ∧ ∀ o, 10 ≤ o → w'.cell? ⟨T, o, none⟩ = w.cell? ⟨T, o, none⟩

theorem ArF.same {B T : Nat} {w w' : World} {bv : Value} {buf base : List Nat} {F : List (List Nat)} (h : ArF B T w bv buf base F) (s : Same w w') : ArF B T w' bv buf base F := ⟨h.ar.same s, h.ok, h.fr⟩
theorem ArF.stay {B T : Nat} {w w' : World} {bv : Value} {buf base : List Nat} {F : List (List Nat)} (h : ArF B T w bv buf base F) (s : Same w w') : APost B T w w' bv F :=
  ⟨bv, buf, base, h.same s, fun g hg => .inl hg, Turn.of_same s.os s.tape s.output s.heap _, fun o _ => s.cell _⟩
/-- New blocks alone. -/
theorem ArF.below {B T : Nat} {w w' : World} {bv : Value} {buf base : List Nat} {F : List (List Nat)} (h : ArF B T w bv buf base F) (b : Below w.heap.size w w') : ArF B T w' bv buf base F :=
  ⟨h.ar.turn (S := []) (Turn.of_below b (Nat.le_refl _) _) (by simp) (by simp), h.ok, h.fr⟩
theorem ArF.grew {B T : Nat} {w w' : World} {bv : Value} {buf base : List Nat} {F : List (List Nat)} (h : ArF B T w bv buf base F) (b : Below w.heap.size w w') : APost B T w w' bv F :=
  ⟨bv, buf, base, h.below b, fun g hg => .inl hg, Turn.of_below b (Nat.le_refl _) _, fun o _ => b.cell (p := ⟨T, o, none⟩) h.ar.lt⟩
theorem APost.after {B T : Nat} {w w1 w' : World} {bv : Value} {F' : List (List Nat)} (hT : T < w.heap.size) (b : Below w.heap.size w w1) (h : APost B T w1 w' bv F') : APost B T w w' bv F' := by
  obtain ⟨bv', buf', base', ha, hg, ht, hc⟩ := h
  refine ⟨bv', buf', base', ha, fun g e => (hg g e).imp id (fun h => Nat.le_trans b.size h), ?_, fun o ho => (hc o ho).trans (b.cell (p := ⟨T, o, none⟩) hT)⟩
  exact (Turn.of_below b (Nat.le_refl _) _).then_ ht (fun i hi _ => hi)
theorem APost.then_below {B T : Nat} {w w1 w' : World} {bv : Value} {F' : List (List Nat)} (hT : T < w.heap.size) (h : APost B T w w1 bv F') (b : Below w1.heap.size w1 w') : APost B T w w' bv F' := by
  obtain ⟨bv', buf', base', ha, hg, ht, hc⟩ := h
  refine ⟨bv', buf', base', ha.below b, hg, ht.then_ (Turn.of_below b (Nat.le_refl _) []) (by simp), fun o ho => (b.cell (p := ⟨T, o, none⟩) (Nat.lt_of_lt_of_le hT ht.size)).trans (hc o ho)⟩

/-- n bytes of the top frame t, from off on, lie at ⟨g, lo⟩. -/
structure Spot (B T : Nat) (w : World) (bv : Value) (G : List (List Nat)) (t : List Nat) (off n : Nat) (ad : Option Addr) (g lo : Nat) : Prop where
  ad : 0 < n → ad = some ⟨g, lo, none⟩
  lt : 0 < n → g < w.heap.size
  blk : 0 < n → bv.ownBlock = some g
  cell : ∀ j, j < n → w.cell? ⟨g, lo + j, none⟩ = some (byteV (t.getD (off + j) 0))
  free : ∀ j, w.frozen? ⟨g, lo + j, none⟩ = false
  put : ∀ news, news.length = n → D.Dig news → ∀ w', Same (w.setCells g lo (news.map byteV)) w' → APost B T w w' bv (G ++ [layL t off news])

theorem Ar.block {B T : Nat} {w : World} {bv : Value} {buf base : List Nat} {top : Nat} (h : Ar B T w bv buf base top) {g : Nat} (hg : bv.ownBlock = some g) :
    ∃ cap, bv = .slice (some ⟨g, 0, none⟩) buf.length cap ∧ B ≤ g ∧ RowV w g cap (buf.map byteV) ∧ cap ≤ maxLen := by
  rcases h.vec with ⟨rfl, _⟩ | ⟨g', cap, rfl, hB, r, hm⟩
  · cases hg
  · have e : g' = g := by simpa [Value.ownBlock] using hg
    subst e
    exact ⟨cap, by simp, hB, r, hm⟩

theorem ArF.put {B T : Nat} {w : World} {bv : Value} {buf base : List Nat} {G : List (List Nat)} {t : List Nat} (h : ArF B T w bv buf base (G ++ [t])) {g : Nat} (hg : bv.ownBlock = some g) (off : Nat) (news : List Nat) (hn : off + news.length ≤ t.length) (hd : D.Dig news) :
    APost B T w (w.setCells g (base.getD G.length 0 + off) (news.map byteV)) bv (G ++ [layL t off news]) := by
  have hlen : (G ++ [t]).length = G.length + 1 := by simp
  have hlen' : (G ++ [layL t off news]).length = G.length + 1 := by simp
  obtain ⟨cap, e, hB, r, hm⟩ := h.ar.block hg
  have ht := h.fr G.length t (by simp)
  have ok := h.ok
  rw [hlen] at ok
  have hup := ok.up G.length (by omega)
  have hfit := ok.fits
  have htl : t.length = base.getD (G.length + 1) 0 - base.getD G.length 0 := by rw [ht, cutL_length hfit]
  have hle := r.le
  have hml : (buf.map byteV).length = buf.length := by simp
  have only := Only.setCells (g := g) (news.map byteV) (a := w) (w := w) (base.getD G.length 0 + off) (Only.refl g w)
  have tn : Turn [g] w (w.setCells g (base.getD G.length 0 + off) (news.map byteV)) := Turn.of_only only
  have hT : T ≠ g := fun e => h.ar.ne (by rw [hg, e])
  have hbl : (layL buf (base.getD G.length 0 + off) news).length = buf.length := layL_length (by omega)
  have r2 := r.lay (base.getD G.length 0 + off) (news.map byteV) (by omega) (by rw [List.length_map]; omega)
  rw [layL_map] at r2
  refine ⟨bv, layL buf (base.getD G.length 0 + off) news, base, ⟨⟨?_, ?_, ?_, ?_, ?_, ?_, h.ar.ne⟩, ?_, ?_⟩, fun k hk => .inl hk, tn.mono (by simp [hg]), fun o _ => ?_⟩
  · rw [only.size]; exact h.ar.lt
  · rw [only.cell (p := ⟨T, 0, none⟩) hT]; exact h.ar.c0
  · intro j hj
    rw [only.cell (p := ⟨T, 1 + j, none⟩) hT]; exact h.ar.cb j hj
  · rw [only.cell (p := ⟨T, 9, none⟩) hT, hlen', ← hlen]; exact h.ar.c9
  · intro o; rw [only.frozen (p := ⟨T, o, none⟩) hT]; exact h.ar.free o
  · exact .inr ⟨g, cap, by rw [e, List.length_map, hbl], hB, r2, hm⟩
  · rw [hlen']
    exact ⟨ok.top_le, ok.zero, ok.up, by rw [hbl]; exact ok.fits, by rw [hbl]; exact ok.most, layL_dig ok.dig hd, ok.low⟩
  · intro i l hl
    by_cases hi : i < G.length
    · rw [List.getElem?_append_left hi] at hl
      have := h.fr i l (by rw [List.getElem?_append_left hi]; exact hl)
      rw [this, cutL_lay_far (by omega)]
      have := ok.mono G.length (i + 1) (by omega) (by omega)
      omega
    · have hi' : i < (G ++ [layL t off news]).length := (List.getElem?_eq_some_iff.1 hl).1
      obtain rfl : i = G.length := by omega
      simp at hl
      rw [← hl, cutL_lay (by omega) hfit, ← ht]
  · rw [only.cell (p := ⟨T, o, none⟩) hT]

theorem Same.after {w w1 w2 : World} (h : Same w1 w2) {B T : Nat} {bv : Value} {F : List (List Nat)} (hp : APost B T w w1 bv F) : APost B T w w2 bv F := by
  obtain ⟨bv', buf', base', ha, hg, ht, hc⟩ := hp
  exact ⟨bv', buf', base', ha.same h, hg, ht.then_ (Turn.of_same h.os h.tape h.output h.heap []) (by simp), fun o ho => (h.cell _).trans (hc o ho)⟩

theorem part_any (w : World) (B T : Nat) (bv : Value) (buf base : List Nat) (G : List (List Nat)) (t : List Nat) (h : ArF B T w bv buf base (G ++ [t])) (off n : Nat) (ho : off < 4294967296) (hn : n < 4294967296) :
    Calls Safg.prog 94 #[.pointer (some ⟨T, 0, none⟩), .int .u32 (off : Int), .int .u32 (n : Int)] w fun e w' => Same w w' ∧
      ((t.length < off + n ∧ e = .returned (.tuple #[.slice none 0 0, .bool false])) ∨
       (off + n ≤ t.length ∧ ∃ ad g lo, e = .returned (.tuple #[.slice ad n n, .bool true]) ∧ Spot B T w' bv G t off n ad g lo)) := by
  have hlen : (G ++ [t]).length = G.length + 1 := by simp
  have ht := h.fr G.length t (by simp)
  have ok := h.ok
  have ar := h.ar
  rw [hlen] at ok ar
  have hfit := ok.fits
  have htl : t.length = base.getD (G.length + 1) 0 - base.getD G.length 0 := by rw [ht, cutL_length hfit]
  refine (part_some w B T bv buf base G.length ar ok _ _ rfl rfl off n ho hn).mono ?_
  rintro e w1 ⟨s1, ⟨h1, rfl⟩ | ⟨h1, ad, rfl, had⟩⟩
  · exact ⟨s1, .inl ⟨by omega, rfl⟩⟩
  · refine ⟨s1, .inr ⟨by omega, ad, ?_⟩⟩
    have h' := h.same s1
    by_cases h0 : 0 < n
    · obtain ⟨g, hg, rfl⟩ := had h0
      obtain ⟨cap, e, hB, r, hm⟩ := h'.ar.block hg
      refine ⟨g, base.getD G.length 0 + off, rfl, fun _ => rfl, fun _ => r.lt, fun _ => hg, fun j hj => ?_, fun j => r.free _, fun news hl hd w2 hs => ?_⟩
      · have hj' : base.getD G.length 0 + off + j < buf.length := by have := ok.up G.length (by omega); omega
        rw [r.byte hj', ht, cutL_getD (by omega), Nat.add_assoc]
      · exact hs.after (h'.put hg off news (by omega) hd)
    · have h0' : n = 0 := by omega
      subst h0'
      refine ⟨T, 0, rfl, fun h => absurd h (by omega), fun h => absurd h (by omega), fun h => absurd h (by omega), fun j hj => absurd hj (by omega), fun j => h'.ar.free _, fun news hl hd w2 hs => ?_⟩
      obtain rfl : news = [] := List.eq_nil_of_length_eq_zero hl
      rw [layL_nil]
      exact h'.stay hs

theorem part_no (w : World) (B T : Nat) (bv : Value) (buf base : List Nat) (h : ArF B T w bv buf base []) (off n : Nat) :
    Calls Safg.prog 94 #[.pointer (some ⟨T, 0, none⟩), .int .u32 (off : Int), .int .u32 (n : Int)] w fun e w' => e = .returned (.tuple #[.slice none 0 0, .bool false]) ∧ w' = w :=
  part_none w B T bv buf base h.ar off n
end Go.Proofs.Ygcsaf
