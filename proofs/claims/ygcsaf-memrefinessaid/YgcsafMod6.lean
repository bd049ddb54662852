/-
  The model's 'Enter' (65), 'Leave' (66).
-/
import Derived.Test.YgcsafMod5
import Derived.Test.YgcsafGrow3
import Derived.Test.YgcsafAgg
namespace Go.Proofs.Ygcsaf
open Go.RowKit
set_option linter.unusedVariables false
set_option linter.unusedSimpArgs false

theorem Safg.info30 : (Safg.prog.info? 30).map (fun i => (i.zero, i.size, i.bytes)) = some (some (.slice none 0 0), 1, 24) := by kernel_rfl
theorem Safg.hinfo30 : ∃ i, Safg.prog.info? 30 = some i ∧ i.zero = some (.slice none 0 0) ∧ i.size = 1 ∧ i.bytes = 24 := by
  obtain ⟨i, hi, hi'⟩ := Option.map_eq_some_iff.1 Safg.info30
  simp only [Prod.mk.injEq] at hi'
  exact ⟨i, hi, hi'.1, hi'.2.1, hi'.2.2⟩

theorem Md.len_of {B T : Nat} {w : World} {col : Nat → Nat} {fv : Value} {fvs : List Value} {F : List (List Nat)} (h : Md B T w col fv fvs F) : ∃ fa fc, fv = .slice fa F.length fc ∧ F.length ≤ fc ∧ fc ≤ maxLen := by
  rw [← h.len]
  rcases h.vec with ⟨rfl, rfl⟩ | ⟨gf, cap, rfl, hB, r, hm⟩
  · exact ⟨_, _, rfl, Nat.le_refl _, Nat.zero_le _⟩
  · exact ⟨_, _, rfl, r.le, hm⟩

theorem wpList_append_vec' {w : World} {ops : Array Oper} {rest : List Oper} {o : Oper} {a : Act} {Q : Exit → Act → World → Prop} (hgd : o.guard = none) (s x : Operand) (t : TypeId)
    (ho : o.op = .call { callee := .builtin .append, args := #[s, x], argTypes := #[t, t] })
    (B : Nat) (e : TypeId) (i : TypeInfo) (z : Value) (bytes : Nat) (ht : Safg.prog.underlying t = some (.slice e)) (hi : Safg.prog.info? e = some i) (hz : i.zero = some z)
    (hsize : i.size = 1) (hby : i.bytes = bytes) (hzs : z.cells.size = 1)
    (v : Value) (vs : List Value) (n : Nat) (hn : vs.length = n) (hs : a.eval s = v) (hv : Vec B w v vs)
    (ad : Addr) (m c : Nat) (news : List Value) (hx : a.eval x = .slice (some ad) m c) (hl : news.length = m) (hnews : ∀ j u, news[j]? = some u → w.cell? (ad.add j) = some u) (h1 : ∀ u ∈ news, u.oneCell' = true)
    (hm : 0 < m) (h63 : n + m ≤ maxLen) (hbytes : (n + m) * bytes ≤ 140737488355328) (hB : B ≤ w.heap.size)
    (h : ∀ g cap w', B ≤ g → RowV w' g cap (vs ++ news) → cap ≤ maxLen → Turn v.ownBlock.toList w w' → (v.ownBlock = some g ∨ w.heap.size ≤ g) → wpList Safg.prog ops Q rest (a.put o.dst (.slice (some ⟨g, 0, none⟩) (n + m) cap)) w') :
    wpList Safg.prog ops Q (o :: rest) a w := by
  subst hn
  exact wpList_append_vec hgd s x t ho B e i z bytes ht hi hz hsize hby hzs v vs hs hv ad m c news hx hl hnews h1 hm h63 hbytes hB h

/-- The model behind a frame more. -/
theorem Md.push {B T : Nat} {w w3 w' : World} {col : Nat → Nat} {fv : Value} {fvs : List Value} {F : List (List Nat)} (h : Md B T w col fv fvs F) {g cap : Nat} (hB : B ≤ g) (r : RowV w3 g cap (fvs ++ [.slice none 0 0])) (hcm : cap ≤ maxLen) (t : Turn fv.ownBlock.toList w w3)
    (hor : fv.ownBlock = some g ∨ w.heap.size ≤ g) (hs : Same (w3.setCell ⟨T, 10, none⟩ (.slice (some ⟨g, 0, none⟩) (F.length + 1) cap)) w') : MPost B T w w' col (F ++ [[]]) := by
  have hTn : T ∉ fv.ownBlock.toList := by
    intro hm
    simp at hm
    have := h.cf T hm
    rw [h.cT] at this
    omega
  have hlt3 : T < w3.heap.size := Nat.lt_of_lt_of_le h.lt t.size
  have hgT : g ≠ T := by
    rcases hor with e | e
    · intro e2
      have := h.cf g e
      rw [e2, h.cT] at this
      omega
    · have := h.lt; omega
  have c10 : w3.cell? ⟨T, 10, none⟩ = some fv := (t.cell (p := ⟨T, 10, none⟩) h.lt hTn).trans h.c10
  have t4 : Turn [T] w3 w' := (setT_turn w3 T 10 _).then_ (Turn.of_same hs.os hs.tape hs.output hs.heap [T]) (by simp)
  have tt : Turn (T :: fv.ownBlock.toList) w w' := (t.mono (S' := T :: fv.ownBlock.toList) (fun i hi => List.mem_cons_of_mem _ hi)).then_ t4 (by simp)
  have hlen : (F ++ [[]]).length = F.length + 1 := by simp
  refine ⟨fun k => if k < w.heap.size then col k else 1, .slice (some ⟨g, 0, none⟩) (F.length + 1) cap, fvs ++ [.slice none 0 0], T :: fv.ownBlock.toList, ⟨h.bT, Nat.lt_of_lt_of_le h.lt tt.size, ?_, ?_, ?_, ?_, ?_, ?_, ?_, ?_⟩, fun k hk => by simp [hk], tt, ?_, fun o ho => ?_⟩
  · rw [hs.cell, setT_cell c10, if_pos rfl]
  · intro o
    rw [hs.frozen, World.frozen?_setCell, t.frozen (p := ⟨T, o, none⟩) h.lt hTn]
    exact h.free o
  · exact .inr ⟨g, cap, by rw [List.length_append, h.len]; rfl, hB, r.turn t4 (by simpa using hgT), hcm⟩
  · rw [List.length_append, h.len, hlen]; rfl
  · intro i v l hv hl
    by_cases hi : i < fvs.length
    · rw [List.getElem?_append_left hi] at hv
      rw [List.getElem?_append_left (by rw [← h.len]; exact hi)] at hl
      refine (h.fr i v l hv hl).turn tt ?_
      intro q hq hm
      have hcv := h.cv i v q hv hq
      simp at hm
      rcases hm with e | e
      · rw [e, h.cT] at hcv; omega
      · have := h.cf q e; omega
    · have hi2 : i < (fvs ++ [Value.slice none 0 0]).length := (List.getElem?_eq_some_iff.1 hv).1
      have : i = fvs.length := by simp at hi2; omega
      subst this
      simp at hv
      rw [h.len] at hl
      simp at hl
      subst hv hl
      exact .inl ⟨rfl, rfl⟩
  · rw [if_pos h.lt]; exact h.cT
  · intro q hq
    have e : g = q := by simpa [Value.ownBlock] using hq
    subst e
    rcases hor with e | e
    · split
      · exact h.cf g e
      · rfl
    · rw [if_neg (by omega)]
  · intro i v q hv hq
    by_cases hi : i < fvs.length
    · rw [List.getElem?_append_left hi] at hv
      have hlt := ((h.fr i v _ hv (List.getElem?_eq_getElem (by rw [← h.len]; exact hi))).block_lt hq).1
      rw [if_pos hlt]
      exact h.cv i v q hv hq
    · have hi2 : i < (fvs ++ [Value.slice none 0 0]).length := (List.getElem?_eq_some_iff.1 hv).1
      have : i = fvs.length := by simp at hi2; omega
      subst this
      simp at hv
      subst hv
      cases hq
  · intro k hk
    simp at hk
    rcases hk with rfl | hk
    · exact ⟨h.bT, by rw [h.cT]; omega, by rw [h.cT]; omega⟩
    · have := h.cf k hk
      exact ⟨(h.vec.block_lt hk).2, by omega, by omega⟩
  · rw [hs.cell, setT_cell c10, if_neg ho, t.cell (p := ⟨T, o, none⟩) h.lt hTn]

set_option maxHeartbeats 1000000 in
theorem mEnter (w : World) (B T : Nat) (col : Nat → Nat) (fv : Value) (fvs : List Value) (F : List (List Nat)) (h : Md B T w col fv fvs F) (hF : FOk F) (hBw : B ≤ w.heap.size) :
    Calls Safg.prog 65 #[.pointer (some ⟨T, 10, none⟩)] w fun e w' => e = .returned (.bool (decide (F.length < 7))) ∧ MPost B T w w' col (if F.length < 7 then F ++ [[]] else F) := by
  obtain ⟨fa, fc, rfl, hfc, hfm⟩ := h.len_of
  have c10 := h.c10
  have h7 := hF.few
  have hml : maxLen = 9223372036854775807 := rfl
  by_cases hf : F.length < 7
  · rw [decide_eq_true hf, if_pos hf]
    have t1 : decide ((7 : Int) ≤ (F.length : Int)) = false := decide_eq_false (by omega)
    obtain ⟨i, hi, hz, hsz, hby⟩ := Safg.hinfo30
    have HB1 : Hid (Blk (w.alloc (.cells #[Value.slice none 0 0] 30)) w.heap.size [.slice none 0 0]) := Blk.alloc w [.slice none 0 0] 30
    have b1 : Below w.heap.size w (w.alloc (.cells #[Value.slice none 0 0] 30)) := (Below.refl _ _).alloc (Nat.le_refl _) _
    have h1 := h.below b1
    have HCELLS : Hid (∀ j u, ([.slice none 0 0] : List Value)[j]? = some u → (w.alloc (.cells #[Value.slice none 0 0] 30)).cell? ((⟨w.heap.size, 0, none⟩ : Addr).add j) = some u) := by
      intro j u hu
      rw [Addr.add_mid]
      exact HB1.out.cell j u hu
    have HLEN := h.len
    have HFIN : Hid (∀ (g cap : Nat) (w3 w' : World), B ≤ g → RowV w3 g cap (fvs ++ [.slice none 0 0]) → cap ≤ maxLen → Turn (Value.slice fa F.length fc).ownBlock.toList (w.alloc (.cells #[Value.slice none 0 0] 30)) w3 → ((Value.slice fa F.length fc).ownBlock = some g ∨ (w.alloc (.cells #[Value.slice none 0 0] 30)).heap.size ≤ g) → Same (w3.setCell ⟨T, 10, none⟩ (.slice (some ⟨g, 0, none⟩) (F.length + 1) cap)) w' → MPost B T w w' col (F ++ [[]])) := by
      intro g cap w3 w' a1 a2 a3 a4 a5 a6
      exact (h1.push a1 a2 a3 a4 a5 a6).after h.lt b1
    have HV := h1.vec
    have hTn : Hid (T ∉ (Value.slice fa F.length fc).ownBlock.toList) := by
      intro hm
      simp only [Option.mem_toList] at hm
      have := h.cf T hm
      rw [h.cT] at this
      omega
    have hlt1 := h1.lt
    have c101 := h1.c10
    have fr1 := h1.free 10
    have hb1 : B ≤ (w.alloc (.cells #[Value.slice none 0 0] 30)).heap.size := Nat.le_trans hBw b1.size
    have hz1 : (Value.slice none 0 0).cells.size = 1 := rfl
    have HONE : Hid (∀ u ∈ ([.slice none 0 0] : List Value), u.oneCell' = true) := by
      intro u hu
      simp at hu
      subst hu
      rfl
    have HHI : Hid (Safg.prog.info? 30 = some i ∧ i.zero = some (.slice none 0 0) ∧ i.size = 1 ∧ i.bytes = 24) := ⟨hi, hz, hsz, hby⟩
    have HVV : Hid (Vec B (w.alloc (.cells #[Value.slice none 0 0] 30)) (.slice fa F.length fc) fvs ∧ fvs.length = F.length) := ⟨HV, HLEN⟩
    clear hi hz hsz hby HV HLEN h h1 b1
    generalize F.length = L at *
    go_enter Safg.func65, Safg.ntmps65
    go_wp2_with (refine wpList_append_vec' rfl _ _ 42 rfl B 30 i _ 24 Safg.underlying42 HHI.out.1 HHI.out.2.1 HHI.out.2.2.1 HHI.out.2.2.2 hz1 _ fvs L HVV.out.2 rfl HVV.out.1 ⟨w.heap.size, 0, none⟩ 1 1 [.slice none 0 0] rfl rfl HCELLS.out HONE.out (by omega) (by omega) (by omega) hb1 ?_; intro g cap w3 a1 a2 a3 a4 a5; have c103 := (a4.cell (p := ⟨T, 10, none⟩) hlt1 hTn.out).trans c101; have fr3 := (a4.frozen (p := ⟨T, 10, none⟩) hlt1 hTn.out).trans fr1; have HA : Hid (∀ w', Same (w3.setCell ⟨T, 10, none⟩ (.slice (some ⟨g, 0, none⟩) (L + 1) cap)) w' → MPost B T w w' col (F ++ [[]])) := fun w' hs => HFIN.out g cap w3 w' a1 a2 a3 a4 a5 hs; clear a1 a2 a3 a4 a5)
    go_ret
    exact ⟨rfl, HA.out _ (Same.refl _)⟩
  · rw [decide_eq_false hf, if_neg hf]
    have t1 : decide ((7 : Int) ≤ (F.length : Int)) = true := decide_eq_true (by omega)
    have HH : Hid (Md B T w col (.slice fa F.length fc) fvs F) := h
    clear h
    generalize F.length = L at *
    go_enter Safg.func65, Safg.ntmps65
    go_wp2
    go_ret
    exact ⟨rfl, HH.out.stay (Same.refl _)⟩

set_option maxHeartbeats 1000000 in
theorem mLeave (w : World) (B T : Nat) (col : Nat → Nat) (fv : Value) (fvs : List Value) (F : List (List Nat)) (h : Md B T w col fv fvs F) (hF : FOk F) :
    Calls Safg.prog 66 #[.pointer (some ⟨T, 10, none⟩)] w fun e w' => e = .returned (.bool (!F.isEmpty)) ∧ MPost B T w w' col F.dropLast := by
  have h7 := hF.few
  rcases split_last F with rfl | ⟨G, t, rfl⟩
  · obtain ⟨fa, fc, rfl⟩ := h.none_
    have c10 := h.c10
    have HH : Hid (Md B T w col (.slice fa 0 fc) fvs []) := h
    clear h
    go_enter Safg.func66, Safg.ntmps66
    go_wp2
    go_ret
    exact ⟨rfl, HH.out.stay (Same.refl _)⟩
  · have hd : (G ++ [t]).dropLast = G := by simp
    have he : (!(G ++ [t]).isEmpty) = true := by simp
    rw [hd, he]
    obtain ⟨gf, cap, ta, tc, gt, m⟩ := h.top
    have c10 := m.c10
    have f10 := h.free 10
    have hle := m.le
    have hcl := m.capl
    have hml : maxLen = 9223372036854775807 := rfl
    have hk : G.length ≤ 6 := by simp at h7; omega
    have FIN : Hid (∀ w', Same (w.setCell ⟨T, 10, none⟩ (.slice (some ⟨gf, 0, none⟩) G.length cap)) w' → MPost B T w w' col G) := by
      intro w' hs
      have tt : Turn [T] w w' := (setT_turn w T 10 _).then_ (Turn.of_same hs.os hs.tape hs.output hs.heap [T]) (by simp)
      have hlen := h.len
      rw [List.length_append] at hlen
      have hl1 : fvs.length = G.length + 1 := hlen
      have hfv : fv = .slice (some ⟨gf, 0, none⟩) (G.length + 1) cap := by
        have := h.c10
        rw [c10] at this
        exact (Option.some.inj this).symm
      subst hfv
      have hvec := h.vec
      refine ⟨col, .slice (some ⟨gf, 0, none⟩) G.length cap, fvs.take G.length, [T], ⟨h.bT, Nat.lt_of_lt_of_le h.lt tt.size, ?_, ?_, ?_, ?_, ?_, h.cT, h.cf, ?_⟩, fun k _ => rfl, tt, ?_, fun o ho => ?_⟩
      · rw [hs.cell, setT_cell c10, if_pos rfl]
      · intro o; rw [hs.frozen, World.frozen?_setCell]; exact h.free o
      · rcases hvec with ⟨e, _⟩ | ⟨g', cap', e, hB, r, hm⟩
        · cases e
        · simp at e
          obtain ⟨rfl, _, rfl⟩ := e
          exact .inr ⟨gf, cap, by rw [List.length_take]; congr 1; omega, hB, (r.take G.length).turn tt (by simpa using m.neTf.symm), hm⟩
      · rw [List.length_take]; omega
      · intro i v l hv hl
        have hi : i < G.length := (List.getElem?_eq_some_iff.1 hl).1
        rw [List.getElem?_take, if_pos hi] at hv
        refine (h.fr i v l hv (by rw [List.getElem?_append_left hi]; exact hl)).turn tt ?_
        intro q hq hm
        have hcv := h.cv i v q hv hq
        simp at hm
        rw [hm, h.cT] at hcv
        omega
      · intro i v q hv hq
        rw [List.getElem?_take] at hv
        split at hv
        · exact h.cv i v q hv hq
        · cases hv
      · intro k hk
        simp at hk
        subst hk
        exact ⟨h.bT, by rw [h.cT]; omega, by rw [h.cT]; omega⟩
      · rw [hs.cell, setT_cell c10, if_neg ho]
    clear m h hF h7
    have t0 : (((G.length : Int) + 1) == 0) = false := by simp; omega
    generalize G.length = K at *
    go_enter Safg.func66, Safg.ntmps66
    go_upto_region 3 with fail
    go_region
    go_wp2
    go_ret
    exact ⟨rfl, FIN.out _ (Same.drew _)⟩
end Go.Proofs.Ygcsaf
