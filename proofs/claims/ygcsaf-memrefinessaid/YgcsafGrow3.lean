/-
  'Arena.Grow' (53): the arm that appends to nil; the whole.
-/
import Derived.Test.YgcsafGrow2
namespace Go.Proofs.Ygcsaf
open Go.RowKit
set_option linter.unusedVariables false
set_option linter.unusedSimpArgs false

set_option maxRecDepth 100000 in
set_option maxHeartbeats 8000000 in
/-- The arm that appends to nil. -/
theorem aGrow_nil (w : World) (B T : Nat) (base : List Nat) (k : Nat) (ar : Ar B T w (.slice none 0 0) [] base (k + 1)) (ok : ArOk [] base (k + 1)) (a : Nat) (hhi : base.getD (k + 1) 0 = 0)
    (ha : a ≤ 22415) (hpos : 0 < 32 * a) (hBw : B ≤ w.heap.size) :
    Calls Safg.prog 53 #[.pointer (some ⟨T, 0, none⟩), .int .u32 (a : Int)] w fun e w' => e = .returned (.bool true) ∧ GPost B T w w' (.slice none 0 0) [] base k 0 (32 * a) := by
  have HT := top_some w B T _ [] base k ar ok _ 0 rfl hhi
  rw [Nat.zero_sub] at HT
  have hk := ok.top_le
  have t1 : decide ((22415 : Int) < (a : Int)) = false := decide_eq_false (by omega)
  have t2 : decide ((32 : Int) * (a : Int) ≤ 0) = false := decide_eq_false (by omega)
  obtain ⟨M, HM⟩ : ∃ M, Hid (32 * a = M) := ⟨_, rfl⟩
  have hMp : 0 < M := by have := HM.out; omega
  have hMl : M ≤ 717280 := by have := HM.out; omega
  have HD : Hid ((32 : Int) * (a : Int) = (M : Int)) := by show _ = _; have := HM.out; omega
  rw [HM.out]
  clear hpos
  have cb := ar.cb (k + 1) (by omega)
  rw [hhi] at cb
  have c9 := ar.c9
  have c0 := ar.c0
  have free := ar.free
  have lt := ar.lt
  have t3 : decide ((M : Int) ≤ 0) = false := decide_eq_false (by omega)
  have HWV : Hid (IntKind.u32.wrap (IntKind.u32.wrap (M : Int)) = ((0 + M : Nat) : Int)) := by
    show _ = _
    rw [IntKind.wrap_u32, IntKind.wrap_u32]
    omega
  have HFIN : Hid (∀ (w1 w3 w' : World) (g' cap' : Nat), Same w w1 → B ≤ g' → RowV w3 g' cap' (([] ++ List.replicate M 0 : List Nat).map byteV) → cap' ≤ maxLen → Turn [] w1 w3 → (none = some g' ∨ w1.heap.size ≤ g') →
      Same ((w3.setCell ⟨T, 0, none⟩ (.slice (some ⟨g', 0, none⟩) (0 + M) cap')).setCell ⟨T, 1 + (k + 1), none⟩ (.int .u32 ((0 + M : Nat) : Int))) w' → GPost B T w w' (.slice none 0 0) [] base k 0 M) := by
    intro w1 w3 w' g' cap' s1 hB' r' hcm' tn' hor hs
    have hsz : w1.heap.size = w.heap.size := by rw [s1.heap]
    have a2 := ar.same s1
    have hge : w1.heap.size ≤ g' := by
      rcases hor with h | h
      · cases h
      · exact h
    have hne : (some g' : Option Nat) ≠ some T := by
      intro e
      injection e with e
      omega
    have hv : Vec B w3 (.slice (some ⟨g', 0, none⟩) (0 + M) cap') ((layL [] 0 (List.replicate M 0)).map byteV) :=
      .inr ⟨g', cap', by rw [List.length_map]; simp [layL], hB', by simpa [layL] using r', hcm'⟩
    have hlt2 : T < w1.heap.size := a2.lt
    have tT : T ∉ ([] : List Nat) := by simp
    refine ⟨w3.setCell ⟨T, 0, none⟩ (.slice (some ⟨g', 0, none⟩) (0 + M) cap'), .slice (some ⟨g', 0, none⟩) (0 + M) cap', Ar.setBuf (Nat.lt_of_lt_of_le hlt2 tn'.size) (by rw [tn'.cell (p := ⟨T, 0, none⟩) hlt2 tT]; exact a2.c0) (fun j hj => by rw [tn'.cell (p := ⟨T, 1 + j, none⟩) hlt2 tT]; exact a2.cb j hj) (by rw [tn'.cell (p := ⟨T, 9, none⟩) hlt2 tT]; exact a2.c9) (fun o => by rw [tn'.frozen (p := ⟨T, o, none⟩) hlt2 tT]; exact a2.free o) hv hne, ?_, ?_, ?_, hs⟩
    · intro q hq
      have e : g' = q := by simpa [Value.ownBlock] using hq
      subst e
      exact .inr (by omega)
    · exact (((Turn.of_same s1.os s1.tape s1.output s1.heap []).trans tn').mono (by simp)).then_ (setT_turn w3 T _ _) (by simp)
    · intro o ho
      rw [setT_cell (u := .slice none 0 0) (by rw [tn'.cell (p := ⟨T, 0, none⟩) hlt2 tT]; exact a2.c0), if_neg (by omega), tn'.cell (p := ⟨T, o, none⟩) hlt2 tT, s1.cell]
  have HAR : Hid (Ar B T w (.slice none 0 0) [] base (k + 1)) := ar
  clear ok ar hhi
  have hk6 : k ≤ 6 := by omega
  have hbd : (0 : Int) ≤ (k : Int) + 1 := by omega
  have hbd2 : (k : Int) + 1 < 8 := by omega
  go_enter Safg.func53, Safg.ntmps53
  go_wp2_with fail
  refine HT.mono ?_
  rintro e w1 ⟨ad, rfl, had, s1⟩
  clear had HT
  have c0' := (s1.cell _).trans c0
  have c9' := (s1.cell _).trans c9
  have cb' := (s1.cell _).trans cb
  clear c0 c9 cb
  go_upto_region 7 with fail
  first | rw [HD.out] | skip
  clear t1 t2 HD HM
  go_quiet (fail)
  go_upto_region 12 with (refine wpList_clear_none rfl _ rfl _ _ rfl ?_)
  have hs2 : Same w1 (w1.drewN nq) := Same.drewN _ _
  have c02 := (hs2.cell _).trans c0'
  have c92 := (hs2.cell _).trans c9'
  have cb2 := (hs2.cell _).trans cb'
  have fr2 : ∀ o, (w1.drewN nq).frozen? ⟨T, o, none⟩ = false := fun o => by rw [hs2.frozen, s1.frozen]; exact free o
  have lt2 : T < (w1.drewN nq).heap.size := by rw [hs2.heap, s1.heap]; exact lt
  have hb2 : B ≤ (w1.drewN nq).heap.size := by rw [hs2.heap, s1.heap]; exact hBw
  generalize w1.drewN nq = w2 at *
  have hs12 := s1.trans hs2
  have HS : Hid (Same w w2) := hs12
  clear c9' cb' c0' hs2 hs12 s1
  have hv2 : Vec B w2 (.slice none 0 0) (([] : List Nat).map byteV) := .inl ⟨rfl, rfl⟩
  have HTn : Hid (T ∉ ([] : List Nat)) := by show T ∉ []; simp
  go_upto_region 13 with (refine wpList_append_zeros' rfl _ _ rfl B _ [] 0 rfl rfl hv2 M _ rfl (by omega) (by omega) (by omega) hb2 ?_; intro g' cap2 w3 hB' r' hcm' tn' hor; have c03 := (tn'.cell (p := ⟨T, 0, none⟩) lt2 HTn.out).trans c02; have c93 := (tn'.cell (p := ⟨T, 9, none⟩) lt2 HTn.out).trans c92; have cb3 := (tn'.cell lt2 HTn.out).trans cb2; have fr3 : ∀ o, w3.frozen? ⟨T, o, none⟩ = false := fun o => (tn'.frozen (p := ⟨T, o, none⟩) lt2 HTn.out).trans (fr2 o); have HTU : Hid (Turn [] w2 w3 ∧ B ≤ g' ∧ RowV w3 g' cap2 (([] ++ List.replicate M 0 : List Nat).map byteV) ∧ cap2 ≤ maxLen ∧ (none = some g' ∨ w2.heap.size ≤ g')) := ⟨tn', hB', r', hcm', hor⟩; clear tn' hB' r' hcm' hor)
  have c94 := setT_other (v := .slice (some ⟨g', 0, none⟩) (0 + M) cap2) c03 c93 (by omega)
  have cb4 := setT_other (v := .slice (some ⟨g', 0, none⟩) (0 + M) cap2) c03 cb3 (by omega)
  have fr4 : ∀ o, (w3.setCell ⟨T, 0, none⟩ (.slice (some ⟨g', 0, none⟩) (0 + M) cap2)).frozen? ⟨T, o, none⟩ = false := fun o => by rw [World.frozen?_setCell]; exact fr3 o
  rw [Nat.zero_add] at c94 cb4 fr4
  obtain ⟨w4, HW4⟩ : ∃ w4, Hid (w3.setCell ⟨T, 0, none⟩ (.slice (some ⟨g', 0, none⟩) M cap2) = w4) := ⟨_, rfl⟩
  rw [HW4.out] at c94 cb4 fr4 ⊢
  clear c02 c92 cb2 fr2 c03 c93 cb3 fr3 hv2
  go_region
  go_wp2
  go_ret
  refine ⟨rfl, HFIN.out w2 w3 _ g' cap2 HS.out HTU.out.2.1 HTU.out.2.2.1 HTU.out.2.2.2.1 HTU.out.1 HTU.out.2.2.2.2 ?_⟩
  rw [Nat.zero_add, HW4.out]
  first | (rw [HWV.out, Nat.zero_add]) | skip
  exact Same.drew _

set_option maxRecDepth 100000 in
set_option maxHeartbeats 4000000 in
theorem aGrow_some (w : World) (B T : Nat) (bv : Value) (buf base : List Nat) (G : List (List Nat)) (t : List Nat) (h : ArF B T w bv buf base (G ++ [t])) (a : Nat) (ha : a < 4294967296) (hBw : B ≤ w.heap.size) :
    Calls Safg.prog 53 #[.pointer (some ⟨T, 0, none⟩), .int .u32 (a : Int)] w fun e w' => e = .returned (.bool (decide (a ≤ 22415))) ∧ APost B T w w' bv (growF (G ++ [t]) a) := by
  have hlen : (G ++ [t]).length = G.length + 1 := by simp
  have ok := h.ok
  have ar := h.ar
  rw [hlen] at ok ar
  have ht := h.fr G.length t (by simp)
  have hfit := ok.fits
  have htl : t.length = base.getD (G.length + 1) 0 - base.getD G.length 0 := by rw [ht, cutL_length hfit]
  have HT := top_some w B T bv buf base G.length ar ok _ _ rfl rfl
  rw [← htl] at HT
  have hlow := h.fok.low t (by simp)
  have hwh := h.fok.whole t (by simp)
  by_cases h1 : a ≤ 22415
  · have t1 : decide ((22415 : Int) < (a : Int)) = false := decide_eq_false (by omega)
    rw [decide_eq_true h1]
    by_cases h2 : 32 * a ≤ t.length
    · have hst : growF (G ++ [t]) a = G ++ [t] := by
        unfold growF
        rw [if_neg (by rw [topF_app]; omega)]
      rw [hst]
      have t2 : decide ((32 : Int) * (a : Int) ≤ (t.length : Int)) = true := decide_eq_true (by omega)
      generalize t.length = m at *
      go_enter Safg.func53, Safg.ntmps53
      go_wp2_with fail
      refine HT.mono ?_
      rintro e w1 ⟨ad, rfl, had, s1⟩
      clear had ok ar hfit htl HT hwh
      go_wp2
      go_ret
      exact ⟨rfl, h.stay s1⟩
    · obtain ⟨M, hM⟩ : ∃ M, t.length + M = 32 * a := ⟨32 * a - t.length, by omega⟩
      have hst : growF (G ++ [t]) a = G ++ [t ++ List.replicate M 0] := by
        unfold growF
        rw [if_pos ⟨by rw [growOk_app]; exact decide_eq_true h1, by rw [topF_app]; omega⟩, topF_app]
        rw [show 32 * a - t.length = M by omega]
        simp
      rw [hst]
      have fin : ∀ w', GPost B T w w' bv buf base G.length (base.getD (G.length + 1) 0) M → APost B T w w' bv (G ++ [t ++ List.replicate M 0]) := by
        rintro w' ⟨w4, bv', ar4, hg, tn, ho, hs⟩
        exact grow_done h (by omega) (by omega) ar4 hg tn ho hs
      rcases ar.vec with ⟨rfl, hb⟩ | ⟨g, cap, hbv, hB, r, hcm⟩
      · have hb0 : buf = [] := by simpa using hb
        subst hb0
        have h0 : base.getD (G.length + 1) 0 = 0 := by simpa using hfit
        rw [h0] at fin
        have ht0 : t.length = 0 := by omega
        refine (aGrow_nil w B T base G.length ar ok a h0 h1 (by omega) hBw).mono ?_
        rintro e w' ⟨rfl, hp⟩
        refine ⟨rfl, fin w' ?_⟩
        rw [show M = 32 * a by omega]
        exact hp
      · have hml : (buf.map byteV).length = buf.length := by simp
        have hle := r.le
        rw [hml] at hle hbv
        subst hbv
        by_cases hfits : base.getD (G.length + 1) 0 + M ≤ buf.length
        · refine (aGrow_clear w B T g cap buf.length buf base G.length ar ok rfl a t.length _ _ M rfl rfl htl.symm h1 hM (by omega) hfits hle hcm).mono ?_
          rintro e w' ⟨rfl, w1, s1, hs⟩
          refine ⟨rfl, fin w' ?_⟩
          rw [← replicate_byteV] at hs
          have only := Only.setCells (g := g) ((List.replicate M 0).map byteV) (a := w1) (w := w1) (base.getD (G.length + 1) 0) (Only.refl g w1)
          have hTg : T ≠ g := fun e => ar.ne (by rw [e]; rfl)
          refine ⟨_, _, (ar.same s1).layAny (g := g) rfl (base.getD (G.length + 1) 0) (List.replicate M 0) (by rw [List.length_replicate]; exact hfits), fun q hq => .inl hq, ?_, fun o ho => ?_, hs⟩
          · exact ((Turn.of_same s1.os s1.tape s1.output s1.heap _).trans (Turn.of_only only)).mono (by intro i hi; simp at hi; subst hi; simp [Value.ownBlock])
          · rw [only.cell (p := ⟨T, o, none⟩) hTg, s1.cell]
        · refine (aGrow_app w B T g cap buf.length buf base G.length ar ok rfl a t.length _ _ M rfl rfl htl.symm h1 hM (by omega) (by omega) hfit hle hcm hBw).mono ?_
          rintro e w' ⟨rfl, hp⟩
          exact ⟨rfl, fin w' hp⟩
  · have t1 : decide ((22415 : Int) < (a : Int)) = true := decide_eq_true (by omega)
    rw [decide_eq_false h1, growF_no (by rw [growOk_app]; exact decide_eq_false h1)]
    generalize t.length = m at *
    go_enter Safg.func53, Safg.ntmps53
    go_wp2_with fail
    refine HT.mono ?_
    rintro e w1 ⟨ad, rfl, had, s1⟩
    clear had ok ar hfit htl HT hwh
    go_wp2
    go_ret
    exact ⟨rfl, h.stay s1⟩

theorem aGrow (w : World) (B T : Nat) (bv : Value) (buf base : List Nat) (F : List (List Nat)) (h : ArF B T w bv buf base F) (a : Nat) (ha : a < 4294967296) (hBw : B ≤ w.heap.size) :
    Calls Safg.prog 53 #[.pointer (some ⟨T, 0, none⟩), .int .u32 (a : Int)] w fun e w' => e = .returned (.bool (growOk F a)) ∧ APost B T w w' bv (growF F a) := by
  rcases split_last F with rfl | ⟨G, t, rfl⟩
  · have HT := top_none w B T bv buf base h.ar
    rw [growF_no rfl]
    go_enter Safg.func53, Safg.ntmps53
    go_wp2_with fail
    refine HT.mono ?_
    rintro e w1 ⟨rfl, hw⟩
    subst hw
    go_wp2
    go_ret
    exact ⟨rfl, h.stay (Same.refl _)⟩
  · rw [growOk_app]
    exact aGrow_some w B T bv buf base G t h a ha hBw
end Go.Proofs.Ygcsaf
