/-
  The model's 'Grow' (67).
-/
import Derived.Test.YgcsafMod6
namespace Go.Proofs.Ygcsaf
open Go.RowKit
set_option linter.unusedVariables false
set_option linter.unusedSimpArgs false
attribute [local go_sem ↓] Go.wp_at_zero Go.wp_at_succ

theorem Own.rowV {w : World} {g : Nat} {L : List Nat} (h : Own w g L) : RowV w g L.length (L.map byteV) :=
  ⟨h.lt, by simp, fun j v hv => by
    rw [byteV_cellsL] at hv
    obtain ⟨hj, rfl⟩ := cellsL_get L j v hv
    exact h.cell j hj, fun j hj => by rw [h.cell j hj]; rfl, h.free⟩

/-- The top frame's slice is stored anew: a new block's. -/
theorem Md.swap {B T : Nat} {w w2 w' : World} {col : Nat → Nat} {gf cap : Nat} {fvs : List Value} {G : List (List Nat)} {t t' : List Nat} (h : Md B T w col (.slice (some ⟨gf, 0, none⟩) (G.length + 1) cap) fvs (G ++ [t])) (b : Below w.heap.size w w2)
    {g : Nat} (hg : w.heap.size ≤ g) (hBw : B ≤ w.heap.size) (own : Own w2 g t') (hl : t'.length ≤ maxLen) (hs : Same (w2.setCell ⟨gf, G.length, none⟩ (.slice (some ⟨g, 0, none⟩) t'.length t'.length)) w') : MPost B T w w' col (G ++ [t']) := by
  have hTf : T ≠ gf := fun e => by have := h.cf gf rfl; rw [← e, h.cT] at this; omega
  have h2 := h.below b
  have hlen := h.len
  rw [List.length_append] at hlen
  have hl1 : fvs.length = G.length + 1 := hlen
  rcases h2.vec with ⟨e, _⟩ | ⟨gf', cap', e, hBf, r, hm⟩
  · cases e
  · simp at e
    obtain ⟨rfl, _, rfl⟩ := e
    have hgf : gf < w.heap.size := (h.vec.block_lt (g := gf) rfl).1
    have only := (Only.refl gf w2).setCell G.length (.slice (some ⟨g, 0, none⟩) t'.length t'.length)
    have t2 : Turn [gf] w2 w' := (Turn.of_only only).then_ (Turn.of_same hs.os hs.tape hs.output hs.heap [gf]) (by simp)
    have tt : Turn [gf] w w' := (Turn.of_below b (Nat.le_refl _) _).trans t2
    have r3 := r.lay G.length [.slice (some ⟨g, 0, none⟩) t'.length t'.length] (by omega) (by have := r.le; simp; omega)
    have hcol' : ∀ k, k < w.heap.size → (fun k => if k < w.heap.size then col k else G.length + 4) k = col k := fun k hk => by simp [hk]
    have hlaid : RowV.laid fvs G.length [.slice (some ⟨g, 0, none⟩) t'.length t'.length] = fvs.take G.length ++ [.slice (some ⟨g, 0, none⟩) t'.length t'.length] := by
      unfold RowV.laid
      rw [List.drop_eq_nil_of_le (by simp; omega), List.append_nil]
    rw [hlaid] at r3
    have rS : RowV w' gf cap (fvs.take G.length ++ [.slice (some ⟨g, 0, none⟩) t'.length t'.length]) := by
      refine r3.turn (S := []) (Turn.of_same hs.os hs.tape hs.output hs.heap []) (by simp)
    have hll : (fvs.take G.length ++ [Value.slice (some ⟨g, 0, none⟩) t'.length t'.length]).length = G.length + 1 := by simp; omega
    have parts : ∀ (i : Nat) (v : Value), (fvs.take G.length ++ [Value.slice (some ⟨g, 0, none⟩) t'.length t'.length])[i]? = some v → (i < G.length ∧ fvs[i]? = some v) ∨ (i = G.length ∧ v = .slice (some ⟨g, 0, none⟩) t'.length t'.length) := by
      intro i v hv
      have hi2 : i < G.length + 1 := by rw [← hll]; exact (List.getElem?_eq_some_iff.1 hv).1
      have htk : (fvs.take G.length).length = G.length := by rw [List.length_take]; omega
      by_cases hi : i < G.length
      · rw [List.getElem?_append_left (by rw [htk]; exact hi), List.getElem?_take, if_pos hi] at hv
        exact .inl ⟨hi, hv⟩
      · have : i = G.length := by omega
        subst this
        rw [List.getElem?_append_right (by rw [htk]; exact Nat.le_refl _), htk, Nat.sub_self] at hv
        simp at hv
        exact .inr ⟨rfl, hv.symm⟩
    refine ⟨fun k => if k < w.heap.size then col k else G.length + 4, .slice (some ⟨gf, 0, none⟩) (G.length + 1) cap, fvs.take G.length ++ [.slice (some ⟨g, 0, none⟩) t'.length t'.length], [gf], ⟨h.bT, Nat.lt_of_lt_of_le h.lt tt.size, ?_, ?_, ?_, ?_, ?_, ?_, ?_, ?_⟩, hcol', tt, ?_, fun o ho => ?_⟩
    · rw [t2.cell (p := ⟨T, 10, none⟩) h2.lt (by simpa using hTf)]; exact h2.c10
    · intro o; rw [t2.frozen (p := ⟨T, o, none⟩) h2.lt (by simpa using hTf)]; exact h2.free o
    · exact .inr ⟨gf, cap, by rw [hll], hBf, rS, hm⟩
    · rw [hll]; simp
    · intro i v l hv hl2
      rcases parts i v hv with ⟨hi, hv'⟩ | ⟨rfl, rfl⟩
      · rw [List.getElem?_append_left hi] at hl2
        refine (h.fr i v l hv' (by rw [List.getElem?_append_left hi]; exact hl2)).turn tt ?_
        intro q hq hmm
        have hcv := h.cv i v q hv' hq
        have := h.cf gf rfl
        simp at hmm
        rw [hmm] at hcv
        omega
      · simp at hl2
        subst hl2
        exact .inr ⟨g, t'.length, by simp, Nat.le_trans hBw hg, own.rowV.turn t2 (by simp; omega), hl⟩
    · show (if T < w.heap.size then col T else G.length + 4) = 0
      rw [if_pos h.lt]; exact h.cT
    · intro q hq
      have e : gf = q := by simpa [Value.ownBlock] using hq
      subst e
      show (if gf < w.heap.size then col gf else G.length + 4) = 1
      rw [if_pos hgf]; exact h.cf gf rfl
    · intro i v q hv hq
      rcases parts i v hv with ⟨hi, hv'⟩ | ⟨rfl, rfl⟩
      · have hlt := ((h.fr i v _ hv' (List.getElem?_eq_getElem (by simp; omega))).block_lt hq).1
        show (if q < w.heap.size then col q else G.length + 4) = i + 4
        rw [if_pos hlt]; exact h.cv i v q hv' hq
      · have e : g = q := by simpa [Value.ownBlock] using hq
        subst e
        show (if g < w.heap.size then col g else G.length + 4) = G.length + 4
        rw [if_neg (by omega)]
    · intro k hk
      simp at hk
      subst hk
      have := h.cf k rfl
      exact ⟨hBf, by omega, by omega⟩
    · rw [t2.cell (p := ⟨T, o, none⟩) h2.lt (by simpa using hTf), b.cell (p := ⟨T, o, none⟩) h.lt]

theorem wp_copy_mid {w : World} {o : Oper} {a : Act} {K : Act → World → Prop} {Q : Exit → Act → World → Prop} (d s : Operand)
    (ho : o.op = .call { callee := .builtin .copy, args := #[d, s], argTypes := #[30, 30] })
    (g n dCap m sCap : Nat) (sp : Option Addr) (hd : a.eval d = .slice (some ⟨g, 0, none⟩) n dCap) (hs : a.eval s = .slice sp m sCap) (hk : m ≤ n)
    (L : List Nat) (hL : L.length = m) (hrd : ∀ j, j < m → ∃ b off, sp = some ⟨b, off, none⟩ ∧ w.cell? ⟨b, off + j, none⟩ = some (byteV (L.getD j 0))) (hth : ∀ j, j < m → (w.cell? ⟨g, 0 + j, none⟩).isSome = true ∧ w.frozen? ⟨g, 0 + j, none⟩ = false)
    (hK : K (a.put o.dst (.int .i64 (m : Int))) (w.setCells g 0 (L.map byteV))) : o.wp Safg.prog a w K Q := by
  have hrun : (Builtin.copy_ #[30, 30] o.type #[.slice (some ⟨g, 0, none⟩) n dCap, .slice sp m sCap]).run Safg.prog w = .ok (.int .i64 (m : Int)) (w.setCells g 0 (L.map byteV)) := by
    by_cases h0 : m = 0
    · subst h0
      obtain rfl : L = [] := List.eq_nil_of_length_eq_zero hL
      have := run_copy_none (P := Safg.prog) w 30 30 o.type 5 (some ⟨g, 0, none⟩) sp n dCap 0 sCap Safg.underlying30 Safg.size5 (Nat.min_eq_left (Nat.zero_le _))
      rw [this]; rfl
    · obtain ⟨b, off, rfl, _⟩ := hrd 0 (by omega)
      have := run_copy_cells (P := Safg.prog) w 30 30 o.type 5 g 0 n dCap ⟨b, off, none⟩ m sCap (L.map byteV) Safg.underlying30 Safg.size5 (by rw [List.length_map, hL]; exact (Nat.min_eq_left hk).symm)
        (fun j v hv => by
          rw [byteV_cellsL] at hv
          obtain ⟨hj, rfl⟩ := cellsL_get L j v hv
          obtain ⟨b', off', e, hc⟩ := hrd j (by omega)
          have e' : (⟨b, off, none⟩ : Addr) = ⟨b', off', none⟩ := Option.some.inj e
          rw [e', Addr.add_mid]; exact hc)
        (fun j hj => (hth j (by simpa [hL] using hj)).1) (fun j hj => (hth j (by simpa [hL] using hj)).2) (by rw [byteV_cellsL]; exact cellsL_one L)
      rw [this, List.length_map, hL]; rfl
  unfold Oper.wp
  simp [execOp, ho, resolve, invoke, builtin, hd, hs, hrun, Result.andThen]
  exact hK

theorem Own.lay {w : World} {g : Nat} {L : List Nat} (h : Own w g L) (l : List Nat) (hl : l.length ≤ L.length) : Own (w.setCells g 0 (l.map byteV)) g (l ++ L.drop l.length) := by
  have hs : ∀ j, j < (l.map byteV).length → (w.cell? ⟨g, 0 + j, none⟩).isSome = true := fun j hj => by
    rw [List.length_map] at hj
    rw [Nat.zero_add, h.cell j (by omega)]; rfl
  refine ⟨?_, fun j hj => ?_, fun o => by rw [World.frozen?_setCells]; exact h.free o⟩
  · have := (Only.setCells (g := g) (l.map byteV) (a := w) (w := w) 0 (Only.refl _ _)).size
    rw [this]; exact h.lt
  · by_cases h1 : j < l.length
    · have := World.cell?_setCells_in g (l.map byteV) 0 w hs j (by rw [List.length_map]; exact h1)
      rw [Nat.zero_add] at this
      rw [this, List.getElem_map, List.getD_eq_getElem?_getD, List.getElem?_append_left h1, List.getElem?_eq_getElem h1]
      rfl
    · rw [World.cell?_setCells_out g (l.map byteV) 0 w ⟨g, j, none⟩ (fun _ _ => by rw [List.length_map]; right; show 0 + l.length ≤ j; omega)]
      have hj2 : j < L.length := by rw [List.length_append, List.length_drop] at hj; omega
      rw [h.cell j hj2, List.getD_eq_getElem?_getD, List.getD_eq_getElem?_getD, List.getElem?_append_right (by omega), List.getElem?_drop]
      rw [show l.length + (j - l.length) = j by omega]

set_option maxRecDepth 100000 in
set_option maxHeartbeats 4000000 in
theorem mGrow (w : World) (B T : Nat) (col : Nat → Nat) (fv : Value) (fvs : List Value) (F : List (List Nat)) (h : Md B T w col fv fvs F) (hF : FOk F) (a : Nat) (ha : a < 4294967296) (hBw : B ≤ w.heap.size) :
    Calls Safg.prog 67 #[.pointer (some ⟨T, 10, none⟩), .int .u32 (a : Int)] w fun e w' => e = .returned (.bool (growOk F a)) ∧ MPost B T w w' col (growF F a) := by
  have h7 := hF.few
  rcases split_last F with rfl | ⟨G, t, rfl⟩
  · obtain ⟨fa, fc, rfl⟩ := h.none_
    have c10 := h.c10
    have HH : Hid (Md B T w col (.slice fa 0 fc) fvs []) := h
    rw [growF_no rfl]
    clear h
    go_enter Safg.func67, Safg.ntmps67
    go_wp2
    go_ret
    exact ⟨rfl, HH.out.stay (Same.refl _)⟩
  · rw [growOk_app]
    have HL := mLen w B T col fv fvs _ h hF
    rw [topF_app] at HL
    obtain ⟨gf, cap, ta, tc, gt, m⟩ := h.top
    have c10 := m.c10
    have hfv : fv = .slice (some ⟨gf, 0, none⟩) (G.length + 1) cap := by
      have := h.c10
      rw [c10] at this
      exact (Option.some.inj this).symm
    subst hfv
    have hk : G.length ≤ 6 := by simp at h7; omega
    have tl := hF.low t (by simp)
    have hle := m.le
    have hcl := m.capl
    have hml : maxLen = 9223372036854775807 := rfl
    have t0 : (((G.length : Int) + 1) == 0) = false := by simp; omega
    have HH : Hid (Md B T w col (.slice (some ⟨gf, 0, none⟩) (G.length + 1) cap) fvs (G ++ [t])) := h
    have HM : Hid (MTop B T w col G t gf cap ta tc gt) := m
    clear h m hF h7
    by_cases h1 : a ≤ 22415
    · have t1 : decide ((22415 : Int) < (a : Int)) = false := decide_eq_false (by omega)
      rw [decide_eq_true h1]
      by_cases h2 : 32 * a ≤ t.length
      · have hst : growF (G ++ [t]) a = G ++ [t] := by
          unfold growF
          rw [if_neg (by rw [topF_app]; omega)]
        rw [hst]
        have t2 : decide ((32 : Int) * (a : Int) ≤ (t.length : Int)) = true := decide_eq_true (by omega)
        generalize t.length = q at *
        generalize G.length = K at *
        go_enter Safg.func67, Safg.ntmps67
        go_wp2_with (go_at_call 68; refine HL.mono ?_; rintro e w1 ⟨rfl, s1⟩)
        go_ret
        exact ⟨rfl, HH.out.stay s1⟩
      · have t2 : decide ((32 : Int) * (a : Int) ≤ (t.length : Int)) = false := decide_eq_false (by omega)
        obtain ⟨n, HN⟩ : ∃ n, Hid (32 * a = n) := ⟨_, rfl⟩
        have hst : growF (G ++ [t]) a = G ++ [t ++ List.replicate (n - t.length) 0] := by
          unfold growF
          rw [if_pos ⟨by rw [growOk_app]; exact decide_eq_true h1, by rw [topF_app]; omega⟩, topF_app, HN.out]
          simp
        rw [hst]
        have hn1 : t.length < n := by have := HN.out; omega
        have hn2 : n ≤ 717280 := by have := HN.out; omega
        have ck := HM.out.ck
        have fk := HM.out.fk
        have hta := HM.out.ta
        have row := HM.out.row
        have hltf := HM.out.ltf
        have hlT := HH.out.lt
        have FIN : Hid (∀ (w2 w' : World) (g : Nat), Below w.heap.size w w2 → w.heap.size ≤ g → Own w2 g (t ++ List.replicate (n - t.length) 0) → Same (w2.setCell ⟨gf, G.length, none⟩ (.slice (some ⟨g, 0, none⟩) n n)) w' → MPost B T w w' col (G ++ [t ++ List.replicate (n - t.length) 0])) := by
          intro w2 w' g b hg own hs
          have e : (t ++ List.replicate (n - t.length) 0).length = n := by simp; omega
          refine HH.out.swap b hg hBw own (by omega) ?_
          rw [e]
          exact hs
        have hrd : ∀ (w2 : World), Below w.heap.size w w2 → ∀ j, j < t.length → ∃ b off, ta = some ⟨b, off, none⟩ ∧ w2.cell? ⟨b, off + j, none⟩ = some (byteV (t.getD j 0)) := by
          intro w2 b j hj
          refine ⟨gt, 0, hta (by omega), ?_⟩
          have r := row (by omega)
          rw [Nat.zero_add, b.cell (p := ⟨gt, j, none⟩) r.lt]
          exact r.byte hj
        have HRD : Hid (∀ (w2 : World), Below w.heap.size w w2 → ∀ j, j < t.length → ∃ b off, ta = some ⟨b, off, none⟩ ∧ w2.cell? ⟨b, off + j, none⟩ = some (byteV (t.getD j 0))) := hrd
        obtain ⟨q, HQ⟩ : ∃ q, Hid (t.length = q) := ⟨_, rfl⟩
        rw [HQ.out] at HL t2 hn1 FIN ck tl HRD
        rw [HQ.out]
        clear hst h2 row hta hrd
        have HN' : Hid ((32 : Int) * (a : Int) = (n : Int)) := by show _ = _; have := HN.out; omega
        generalize G.length = K at *
        go_enter Safg.func67, Safg.ntmps67
        go_upto_region 6 with (first | (go_at_call 68; refine HL.mono ?_; rintro e w1 ⟨rfl, s1⟩) | (refine wpList_make_bytes _ rfl _ _ 30 rfl Safg.underlying30 .u32 .u32 _ _ n rfl rfl HN'.out HN'.out (by omega) ?_; intro w2 g hg o2 b2))
        have hsz : w1.heap.size = w.heap.size := by rw [s1.heap]
        have b02 : Below w.heap.size w w2 := (s1.below _).trans (b2.mono (by omega))
        have c102 := (b02.cell (p := ⟨T, 10, none⟩) hlT).trans c10
        have ck2 := (b02.cell (p := ⟨gf, K, none⟩) hltf).trans ck
        have fk2 := (b02.frozen (p := ⟨gf, K, none⟩) hltf).trans fk
        have hrd2 := HRD.out w2 b02
        have hgT : T ≠ g := by omega
        have hgf : gf ≠ g := by omega
        have hth2 : ∀ j, j < q → (w2.cell? ⟨g, 0 + j, none⟩).isSome = true ∧ w2.frozen? ⟨g, 0 + j, none⟩ = false := fun j hj => by
          rw [Nat.zero_add, o2.cell j (by simp; omega)]
          exact ⟨rfl, o2.free j⟩
        have only := Only.setCells (g := g) (t.map byteV) (a := w2) (w := w2) 0 (Only.refl g w2)
        have ol := o2.lay t (by simp [HQ.out]; omega)
        have hdrop : t ++ (List.replicate n 0).drop t.length = t ++ List.replicate (n - q) 0 := by rw [HQ.out, List.drop_replicate]
        rw [hdrop] at ol
        have HC1 : Hid (w2.drew.cell? ⟨T, 10, none⟩ = some (.slice (some ⟨gf, 0, none⟩) (K + 1) cap) ∧ w2.drew.cell? ⟨gf, K, none⟩ = some (.slice ta q tc)) := ⟨c102, ck2⟩
        have sd := (Same.drew w2).setCells g 0 (t.map byteV)
        have HC2 : Hid ((w2.drew.setCells g 0 (t.map byteV)).cell? ⟨T, 10, none⟩ = some (.slice (some ⟨gf, 0, none⟩) (K + 1) cap) ∧ (w2.drew.setCells g 0 (t.map byteV)).cell? ⟨gf, K, none⟩ = some (.slice ta q tc)) :=
          ⟨by rw [sd.cell, only.cell (p := ⟨T, 10, none⟩) hgT]; exact c102, by rw [sd.cell, only.cell (p := ⟨gf, K, none⟩) hgf]; exact ck2⟩
        have HSD : Hid (Same (w2.setCells g 0 (t.map byteV)) (w2.drew.setCells g 0 (t.map byteV))) := sd
        have HRD2 : Hid (∀ j, j < q → ∃ b off, ta = some ⟨b, off, none⟩ ∧ w2.drew.cell? ⟨b, off + j, none⟩ = some (byteV (t.getD j 0))) := hrd2
        have HTH2 : Hid (∀ j, j < q → (w2.drew.cell? ⟨g, 0 + j, none⟩).isSome = true ∧ w2.drew.frozen? ⟨g, 0 + j, none⟩ = false) := hth2
        have HFK2 : Hid (w2.frozen? ⟨gf, K, none⟩ = false) := fk2
        clear hrd2 hth2 sd c10 ck fk HRD HL
        have wr1 : IntKind.i64.wrap ((K : Int) + 1 - 1) = (K : Int) := by rw [IntKind.wrap_i64]; omega
        have wr2 : IntKind.i64.wrap (((K + 1 : Nat) : Int) - 1) = (K : Int) := by rw [IntKind.wrap_i64]; omega
        have wr3 : IntKind.i64.wrap (K : Int) = (K : Int) := by rw [IntKind.wrap_i64]; omega
        have bd1 : (0 : Int) ≤ (K : Int) := by omega
        have bd2 : (K : Int) < (K : Int) + 1 := by omega
        have bd3 : (K : Int) < ((K + 1 : Nat) : Int) := by omega
        go_region_held3 (fun w' => w'.cell? ⟨T, 10, none⟩ = some (.slice (some ⟨gf, 0, none⟩) (K + 1) cap) ∧ w'.cell? ⟨gf, K, none⟩ = some (.slice ta q tc))
          (first | exact HC1.out | exact HC2.out)
          (first | (refine wp_copy_mid _ _ rfl g n n q tc ta rfl rfl (by omega) t HQ.out HRD2.out HTH2.out ?_))
        have HOL : Hid (Own (w2.drew.setCells g 0 (t.map byteV)) g (t ++ List.replicate (n - q) 0)) := HSD.out.own ol
        have HBL : Hid (Below w.heap.size w (w2.drew.setCells g 0 (t.map byteV))) := (b02.trans (only.below (by omega))).trans (HSD.out.below _)
        have c103 := HC2.out.1
        have ck3 := HC2.out.2
        have fk3 : (w2.drew.setCells g 0 (t.map byteV)).frozen? ⟨gf, K, none⟩ = false := by rw [HSD.out.frozen, World.frozen?_setCells]; exact HFK2.out
        obtain ⟨w3, HW3⟩ : ∃ w3, Hid (w2.drew.setCells g 0 (t.map byteV) = w3) := ⟨_, rfl⟩
        rw [HW3.out] at HOL HBL c103 ck3 fk3 ⊢
        clear c102 ck2 fk2 ol hdrop only HC1 HC2 HSD HRD2 HTH2 HFK2 wr1 wr2 wr3 bd1 bd2 bd3 o2 b2 b02
        try clear hHeld
        go_upto_region 7 with fail
        go_region
        go_wp2
        go_ret
        exact ⟨rfl, FIN.out w3 _ g HBL.out (by omega) HOL.out (Same.drew _)⟩
    · have t1 : decide ((22415 : Int) < (a : Int)) = true := decide_eq_true (by omega)
      rw [decide_eq_false h1, growF_no (by rw [growOk_app]; exact decide_eq_false h1)]
      generalize G.length = K at *
      go_enter Safg.func67, Safg.ntmps67
      go_wp2
      go_ret
      exact ⟨rfl, HH.out.stay (Same.refl _)⟩
end Go.Proofs.Ygcsaf
