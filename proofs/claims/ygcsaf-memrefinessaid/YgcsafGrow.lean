/-
  'Arena.Grow' (53).
-/
import Derived.Test.YgcsafUpd
import Derived.Test.YgcsafMeth2
namespace Go.Proofs.Ygcsaf
open Go.RowKit
set_option linter.unusedVariables false
set_option linter.unusedSimpArgs false

def growOk (F : List (List Nat)) (a : Nat) : Bool := !F.isEmpty && decide (a ≤ 22415)
def growF (F : List (List Nat)) (a : Nat) : List (List Nat) :=
  if growOk F a = true ∧ (topF F).length < 32 * a then F.dropLast ++ [topF F ++ List.replicate (32 * a - (topF F).length) 0] else F

theorem layL_get_far {l news : List Nat} {off j : Nat} (ho : off ≤ l.length) (hj : j < off) : (layL l off news)[j]? = l[j]? := by
  rw [layL_get ho, if_pos hj]

/-- What the growing leaves, plain: more zeros over what lies behind the top frame. -/
theorem grow_plain {buf base : List Nat} {G : List (List Nat)} {t : List Nat} {more : Nat} (ok : ArOk buf base (G.length + 1)) (fr : ∀ i l, (G ++ [t])[i]? = some l → l = cutL buf (base.getD i 0) (base.getD (i + 1) 0))
    (hm : (t.length + more) % 32 = 0) (hle : t.length + more ≤ 717280) :
    ArOk (layL buf (base.getD (G.length + 1) 0) (List.replicate more 0)) (upd base (G.length + 1) (base.getD (G.length + 1) 0 + more)) (G.length + 1) ∧
    ∀ i l, (G ++ [t ++ List.replicate more 0])[i]? = some l → l = cutL (layL buf (base.getD (G.length + 1) 0) (List.replicate more 0)) ((upd base (G.length + 1) (base.getD (G.length + 1) 0 + more)).getD i 0) ((upd base (G.length + 1) (base.getD (G.length + 1) 0 + more)).getD (i + 1) 0) := by
  have ht := fr G.length t (by simp)
  have h7 := ok.top_le
  have hup := ok.up G.length (by omega)
  have hfit := ok.fits
  have hb := ok.bound G.length (by omega)
  have htl : t.length = base.getD (G.length + 1) 0 - base.getD G.length 0 := by rw [ht, cutL_length hfit]
  have hlen : (layL buf (base.getD (G.length + 1) 0) (List.replicate more 0)).length = max buf.length (base.getD (G.length + 1) 0 + more) := by
    unfold layL
    rw [List.length_append, List.length_append, List.length_take, List.length_drop, List.length_replicate]
    omega
  have hmost := ok.most
  constructor
  · refine ⟨h7, by rw [upd_get (by omega), if_neg (by omega)]; exact ok.zero, fun i hi => ?_, ?_, ?_, layL_dig ok.dig (D.Dig.replicate _), upd_low ok.low (by omega)⟩
    · rw [upd_get (by omega), upd_get (by omega), if_neg (by omega)]
      by_cases e : i = G.length
      · subst e
        rw [if_pos rfl]
        omega
      · rw [if_neg (by omega)]
        exact ok.up i hi
    · rw [upd_get (by omega), if_pos rfl, hlen]; omega
    · rw [hlen]; omega
  · intro i l hl
    have hi : i < G.length + 1 := by have := (List.getElem?_eq_some_iff.1 hl).1; simpa using this
    rw [upd_get (by omega), upd_get (by omega), if_neg (by omega)]
    by_cases e : i = G.length
    · subst e
      rw [if_pos rfl]
      simp at hl
      rw [← hl]
      apply List.ext_getElem?
      intro j
      rw [cutL_get, List.getElem?_append, layL_get hfit, List.length_replicate]
      by_cases h1 : j < t.length
      · rw [if_pos h1, if_pos (by omega), if_pos (by omega), ht, cutL_get, if_pos (by omega)]
      · rw [if_neg h1]
        by_cases h2 : j < t.length + more
        · rw [if_pos (by omega), if_neg (by omega), if_pos (by omega), List.getElem?_replicate, List.getElem?_replicate, if_pos (by omega), if_pos (by omega)]
        · rw [if_neg (by omega), List.getElem?_replicate, if_neg (by omega)]
    · rw [if_neg (by omega)]
      rw [List.getElem?_append_left (by omega)] at hl
      have hh := fr i l (by rw [List.getElem?_append_left (by omega)]; exact hl)
      have hmn := ok.mono (G.length + 1) (i + 1) (by omega) (Nat.le_refl _)
      rw [hh]
      apply List.ext_getElem?
      intro j
      rw [cutL_get, cutL_get]
      split
      · rw [layL_get_far hfit (by omega)]
      · rfl

/-- The arena behind the growing: its block's cell 0 may hold a new slice. -/
theorem grow_done {B T : Nat} {w w2 w' : World} {bv bv' : Value} {buf base : List Nat} {G : List (List Nat)} {t : List Nat} {more : Nat} (h : ArF B T w bv buf base (G ++ [t])) (hm : (t.length + more) % 32 = 0) (hle : t.length + more ≤ 717280)
    (ar : Ar B T w2 bv' (layL buf (base.getD (G.length + 1) 0) (List.replicate more 0)) base (G.length + 1)) (hg : ∀ g, bv'.ownBlock = some g → bv.ownBlock = some g ∨ w.heap.size ≤ g) (ht : Turn (T :: bv.ownBlock.toList) w w2)
    (ho : ∀ o, 10 ≤ o → w2.cell? ⟨T, o, none⟩ = w.cell? ⟨T, o, none⟩) (hs : Same (w2.setCell ⟨T, 1 + (G.length + 1), none⟩ (.int .u32 ((base.getD (G.length + 1) 0 + more : Nat) : Int))) w') :
    APost B T w w' bv (G ++ [t ++ List.replicate more 0]) := by
  have hlen : (G ++ [t]).length = G.length + 1 := by simp
  have hlen' : (G ++ [t ++ List.replicate more 0]).length = G.length + 1 := by simp
  have ok := h.ok
  rw [hlen] at ok
  obtain ⟨p1, p2⟩ := grow_plain ok h.fr hm hle
  have h7 := ok.top_le
  refine hs.after ?_
  refine ⟨bv', _, _, ⟨by rw [hlen']; exact ar.setBase (by omega) _, by rw [hlen']; exact p1, p2⟩, hg, ht.then_ (setT_turn w2 T _ _) (by simp), fun o h => ?_⟩
  rw [setT_cell (ar.cb _ (by omega)), if_neg (by omega)]
  exact ho o h

theorem growOk_app (G : List (List Nat)) (t : List Nat) (a : Nat) : growOk (G ++ [t]) a = decide (a ≤ 22415) := by simp [growOk]
theorem growF_no {F : List (List Nat)} {a : Nat} (h : growOk F a = false) : growF F a = F := by unfold growF; rw [if_neg (by rw [h]; simp)]

theorem Ar.layAny {B T : Nat} {w : World} {bv : Value} {buf base : List Nat} {top : Nat} (h : Ar B T w bv buf base top) {g : Nat} (hg : bv.ownBlock = some g) (off : Nat) (news : List Nat) (hn : off + news.length ≤ buf.length) :
    Ar B T (w.setCells g off (news.map byteV)) bv (layL buf off news) base top := by
  obtain ⟨cap, e, hB, r, hm⟩ := h.block hg
  have only := Only.setCells (g := g) (news.map byteV) (a := w) (w := w) off (Only.refl g w)
  have hT : T ≠ g := fun e => h.ne (by rw [hg, e])
  have hml : (buf.map byteV).length = buf.length := by simp
  have hle := r.le
  have r2 := r.lay off (news.map byteV) (by omega) (by rw [List.length_map]; omega)
  rw [layL_map] at r2
  refine ⟨by rw [only.size]; exact h.lt, by rw [only.cell (p := ⟨T, 0, none⟩) hT]; exact h.c0, fun j hj => by rw [only.cell (p := ⟨T, 1 + j, none⟩) hT]; exact h.cb j hj, by rw [only.cell (p := ⟨T, 9, none⟩) hT]; exact h.c9, fun o => by rw [only.frozen (p := ⟨T, o, none⟩) hT]; exact h.free o, .inr ⟨g, cap, ?_, hB, r2, hm⟩, h.ne⟩
  rw [e, List.length_map, layL_length hn]

/-- What the growing has done ahead of the last store. -/
def GPost (B T : Nat) (w w' : World) (bv : Value) (buf base : List Nat) (k hi M : Nat) : Prop :=
  ∃ w4 bv', Ar B T w4 bv' (layL buf hi (List.replicate M 0)) base (k + 1) ∧ (∀ g, bv'.ownBlock = some g → bv.ownBlock = some g ∨ w.heap.size ≤ g) ∧ Turn (T :: bv.ownBlock.toList) w w4 ∧ (∀ o, 10 ≤ o → w4.cell? ⟨T, o, none⟩ = w.cell? ⟨T, o, none⟩) ∧
    Same (w4.setCell ⟨T, 1 + (k + 1), none⟩ (.int .u32 ((hi + M : Nat) : Int))) w'

/-- 'clear' of nothing. -/
theorem wpList_clear_none {w : World} {ops : Array Oper} {rest : List Oper} {o : Oper} {a : Act} {Q : Exit → Act → World → Prop} (hgd : o.guard = none) (x : Operand)
    (ho : o.op = .call { callee := .builtin .clear, args := #[x], argTypes := #[30] }) (ad : Option Addr) (c : Nat) (hx : a.eval x = .slice ad 0 c)
    (hK : wpList Safg.prog ops Q rest (a.put o.dst (.tuple #[])) w) : wpList Safg.prog ops Q (o :: rest) a w :=
  wpList_clear_bytes hgd x 30 ho Safg.underlying30 ad 0 0 0 c hx (fun h => absurd h (by omega)) (fun j hj => absurd hj (by omega)) (fun j hj => absurd hj (by omega)) hK

theorem layL_more (buf : List Nat) (hi M : Nat) (h : hi ≤ buf.length) (hM : buf.length - hi ≤ M) : layL buf hi (List.replicate (buf.length - hi) 0) ++ List.replicate (M - (buf.length - hi)) 0 = layL buf hi (List.replicate M 0) := by
  unfold layL
  rw [List.length_replicate, List.length_replicate, List.drop_eq_nil_of_le (by omega), List.drop_eq_nil_of_le (by omega), List.append_nil, List.append_nil, List.append_assoc, List.replicate_append_replicate]
  congr 2
  omega

set_option maxRecDepth 100000 in
set_option maxHeartbeats 8000000 in
/-- The arm that clears what is stale. -/
theorem aGrow_clear (w : World) (B T : Nat) (g cap n : Nat) (buf base : List Nat) (k : Nat) (ar : Ar B T w (.slice (some ⟨g, 0, none⟩) n cap) buf base (k + 1)) (ok : ArOk buf base (k + 1)) (hn : n = buf.length) (a m lo hi M : Nat) (hlo : base.getD k 0 = lo) (hhi : base.getD (k + 1) 0 = hi) (hm : hi - lo = m)
    (ha : a ≤ 22415) (hM : m + M = 32 * a) (hpos : 0 < M) (hfits : hi + M ≤ n) (hcap : n ≤ cap) (hcm : cap ≤ maxLen) :
    Calls Safg.prog 53 #[.pointer (some ⟨T, 0, none⟩), .int .u32 (a : Int)] w fun e w' => e = .returned (.bool true) ∧ ∃ w1, Same w w1 ∧ Same ((w1.setCells g hi (List.replicate M (Value.int .u8 0))).setCell ⟨T, 1 + (k + 1), none⟩ (.int .u32 ((hi + M : Nat) : Int))) w' := by
  have HT := top_some w B T _ buf base k ar ok lo hi hlo hhi
  rw [hm] at HT
  have hk := ok.top_le
  have hmost := ok.most
  have t1 : decide ((22415 : Int) < (a : Int)) = false := decide_eq_false (by omega)
  have t2 : decide ((32 : Int) * (a : Int) ≤ (m : Int)) = false := decide_eq_false (by omega)
  have HD : Hid ((32 : Int) * (a : Int) - (m : Int) = (M : Int)) := by show _ = _; omega
  have cb := ar.cb (k + 1) (by omega)
  rw [hhi] at cb
  have c9 := ar.c9
  have c0 := ar.c0
  have free := ar.free
  obtain ⟨cap', e, hB, r, _⟩ := ar.block (g := g) rfl
  have hTg : T ≠ g := fun e => ar.ne (by rw [e]; rfl)
  have hcap' : cap' = cap := by simp at e; omega
  subst hcap'
  have hml : maxLen = 9223372036854775807 := rfl
  have room := r.room
  have rfree := r.free
  have hmn : m ≤ 717280 := by omega
  have t3 : decide ((M : Int) ≤ ((n - hi : Nat) : Int)) = true := decide_eq_true (by omega)
  have hn6 : n ≤ 5020960 := by omega
  clear ok ar hlo hhi e hB r hm hn
  have HWV : Hid (IntKind.u32.wrap ((hi : Int) + IntKind.u32.wrap (M : Int)) = ((hi + M : Nat) : Int)) := by
    show _ = _
    rw [IntKind.wrap_u32, IntKind.wrap_u32]
    omega
  go_enter Safg.func53, Safg.ntmps53
  go_wp2_with fail
  refine HT.mono ?_
  rintro e w1 ⟨ad, rfl, had, s1⟩
  clear had HT
  have c0' := (s1.cell _).trans c0
  have c9' := (s1.cell _).trans c9
  have cb' := (s1.cell _).trans cb
  go_upto_region 7 with fail
  rw [HD.out]
  clear t1 t2 HD c0 c9 cb
  have hk6 : k ≤ 6 := by omega
  have hbd : (0 : Int) ≤ (k : Int) + 1 := by omega
  have hbd2 : (k : Int) + 1 < 8 := by omega
  (
    go_quiet (fail)
    go_upto_region 13 with (refine wpList_clear_bytes rfl _ 30 rfl Safg.underlying30 _ g hi M (cap' - hi) rfl (fun _ => rfl) (fun j hj => by rw [(Same.drewN w1 _).cell, s1.cell]; exact room _ (by omega)) (fun j hj => by rw [(Same.drewN w1 _).frozen, s1.frozen]; exact rfree _) ?_)
    have hs2 := (Same.drewN w1 nq).setCells g hi (List.replicate M (Value.int .u8 0))
    generalize (w1.drewN nq).setCells g hi (List.replicate M (Value.int .u8 0)) = w2 at *
    have only := Only.setCells (g := g) (List.replicate M (Value.int .u8 0)) (a := w1) (w := w1) hi (Only.refl g w1)
    have c9'' := (hs2.cell _).trans ((only.cell hTg).trans c9')
    have cb'' := (hs2.cell _).trans ((only.cell hTg).trans cb')
    have fb'' : ∀ o, w2.frozen? ⟨T, o, none⟩ = false := fun o => by rw [hs2.frozen, only.frozen hTg, s1.frozen]; exact free o
    have HS : Hid (Same (w1.setCells g hi (List.replicate M (Value.int .u8 0))) w2) := hs2
    clear hs2 only c9' cb' c0'
    go_region
    go_wp2
    go_ret
    exact ⟨rfl, w1, s1, by (first | rw [HWV.out] | rw [Int.natCast_add]); exact (HS.out.setCell _ _).trans (Same.drew _)⟩)

end Go.Proofs.Ygcsaf
