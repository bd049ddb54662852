/-
  THE ARENA's CELLS STORED: a base, the top, the buffer; 'append(buf, make([]byte, m)...)'; 'Enter', 'Leave', 'Len' over frames.
-/
import Derived.Test.YgcsafMeth
namespace Go.Proofs.Ygcsaf
open Go.RowKit
set_option linter.unusedVariables false
set_option linter.unusedSimpArgs false

def upd (base : List Nat) (k x : Nat) : List Nat := (List.range 8).map fun j => if j = k then x else base.getD j 0
theorem upd_get {base : List Nat} {k x j : Nat} (hj : j < 8) : (upd base k x).getD j 0 = if j = k then x else base.getD j 0 := by
  simp only [upd, List.getD_eq_getElem?_getD, List.getElem?_map, List.getElem?_range hj, Option.map_some, Option.getD_some]
theorem upd_far {base : List Nat} {k x j : Nat} (hj : 8 ≤ j) : (upd base k x).getD j 0 = 0 := by
  simp only [upd, List.getD_eq_getElem?_getD, List.getElem?_map]
  rw [List.getElem?_eq_none (by simpa using hj)]; rfl
theorem upd_low {base : List Nat} {k x : Nat} (h : ∀ i, base.getD i 0 < 4294967296) (hx : x < 4294967296) (i : Nat) : (upd base k x).getD i 0 < 4294967296 := by
  by_cases hi : i < 8
  · rw [upd_get hi]
    split
    · exact hx
    · exact h i
  · rw [upd_far (by omega)]; omega

theorem setT_cell {w : World} {T o o' : Nat} {u v : Value} (h : w.cell? ⟨T, o, none⟩ = some u) : (w.setCell ⟨T, o, none⟩ v).cell? ⟨T, o', none⟩ = if o' = o then some v else w.cell? ⟨T, o', none⟩ := by
  by_cases e : o' = o
  · subst e
    rw [World.cell?_setCell_same (h := h), if_pos rfl]
  · have hne : (⟨T, o, none⟩ : Addr) ≠ ⟨T, o', none⟩ := by
      intro e'
      injection e' with _ e2
      exact e e2.symm
    rw [World.cell?_setCell_other (h := hne), if_neg e]
theorem setT_turn (w : World) (T o : Nat) (v : Value) : Turn [T] w (w.setCell ⟨T, o, none⟩ v) := Turn.of_only ((Only.refl T w).setCell o v)

theorem Ar.vec_set {B T : Nat} {w : World} {bv : Value} {buf base : List Nat} {top : Nat} (h : Ar B T w bv buf base top) (o : Nat) (v : Value) : Vec B (w.setCell ⟨T, o, none⟩ v) bv (buf.map byteV) :=
  h.vec.turn (setT_turn w T o v) (fun g hg hm => by simp at hm; exact h.ne (by rw [hg, hm]))

theorem Ar.setBase {B T : Nat} {w : World} {bv : Value} {buf base : List Nat} {top : Nat} (h : Ar B T w bv buf base top) {k : Nat} (hk : k < 8) (x : Nat) : Ar B T (w.setCell ⟨T, 1 + k, none⟩ (.int .u32 (x : Int))) bv buf (upd base k x) top := by
  have hc := h.cb k hk
  refine ⟨Nat.lt_of_lt_of_le h.lt (setT_turn w T _ _).size, ?_, fun j hj => ?_, ?_, fun o => by rw [World.frozen?_setCell]; exact h.free o, h.vec_set _ _, h.ne⟩
  · rw [setT_cell hc, if_neg (by omega)]; exact h.c0
  · rw [setT_cell hc, upd_get hj]
    by_cases e : j = k
    · rw [if_pos (by omega), if_pos e]
    · rw [if_neg (by omega), if_neg e]; exact h.cb j hj
  · rw [setT_cell hc, if_neg (by omega)]; exact h.c9

theorem Ar.setTop {B T : Nat} {w : World} {bv : Value} {buf base : List Nat} {top : Nat} (h : Ar B T w bv buf base top) (k : Nat) : Ar B T (w.setCell ⟨T, 9, none⟩ (.int .u8 (k : Int))) bv buf base k := by
  have hc := h.c9
  refine ⟨Nat.lt_of_lt_of_le h.lt (setT_turn w T _ _).size, ?_, fun j hj => ?_, ?_, fun o => by rw [World.frozen?_setCell]; exact h.free o, h.vec_set _ _, h.ne⟩
  · rw [setT_cell hc, if_neg (by omega)]; exact h.c0
  · rw [setT_cell hc, if_neg (by omega)]; exact h.cb j hj
  · rw [setT_cell hc, if_pos rfl]

/-- The buffer's slice stored anew: of the world before the store only the arena's block counts. -/
theorem Ar.setBuf {B T : Nat} {w : World} {bv : Value} {buf base : List Nat} {top : Nat} (hlt : T < w.heap.size) (c0 : w.cell? ⟨T, 0, none⟩ = some bv) (cb : ∀ j, j < 8 → w.cell? ⟨T, 1 + j, none⟩ = some (.int .u32 ((base.getD j 0 : Nat) : Int)))
    (c9 : w.cell? ⟨T, 9, none⟩ = some (.int .u8 (top : Int))) (hf : ∀ o, w.frozen? ⟨T, o, none⟩ = false) {bv' : Value} (hv : Vec B w bv' (buf.map byteV)) (hne : bv'.ownBlock ≠ some T) : Ar B T (w.setCell ⟨T, 0, none⟩ bv') bv' buf base top := by
  refine ⟨Nat.lt_of_lt_of_le hlt (setT_turn w T _ _).size, ?_, fun j hj => ?_, ?_, fun o => by rw [World.frozen?_setCell]; exact hf o, hv.turn (setT_turn w T 0 bv') (fun g hg hm => by simp at hm; exact hne (by rw [hg, hm])), hne⟩
  · rw [setT_cell c0, if_pos rfl]
  · rw [setT_cell c0, if_neg (by omega)]; exact cb j hj
  · rw [setT_cell c0, if_neg (by omega)]; exact c9

theorem RowV.alloc (w : World) (vs rest : List Value) (e : TypeId) : RowV (w.alloc (.cells (vs ++ rest).toArray e)) w.heap.size (vs.length + rest.length) vs := by
  have hcell : ∀ j, (w.alloc (.cells (vs ++ rest).toArray e)).cell? ⟨w.heap.size, j, none⟩ = (vs ++ rest)[j]? := by
    intro j
    unfold World.cell?
    rw [heap_alloc_new]
    show (if (none : Option _).isSome = true then none else (vs ++ rest).toArray[j]?) = _
    simp
  refine ⟨by simp, by omega, fun j v hv => ?_, fun j hj => ?_, fun o => ?_⟩
  · rw [hcell, List.getElem?_append_left (List.getElem?_eq_some_iff.1 hv).1]; exact hv
  · rw [hcell, List.getElem?_eq_getElem (by simp; omega)]; rfl
  · unfold World.frozen?
    rw [heap_alloc_new]
    simp

theorem run_zeros_grow (w : World) (ty : TypeId) (base : Option Addr) (sLen sCap m : Nat) (olds : List Value) (hold : (Builtin.firstCells 1 sLen (.slice base sLen sCap)).run Safg.prog w.drew = .ok olds.toArray w.drew)
    (hm : 0 < m) (hg : sCap < sLen + m) (hbig : sLen + m ≤ 10000000) :
    (Builtin.append_ #[30, 3] ty #[.slice base sLen sCap, .int .i64 (m : Int)]).run Safg.prog w =
      .ok (.slice (some ⟨w.heap.size, 0, none⟩) (sLen + m) (grownCap w (sLen + m) sCap 5)) (w.drew.alloc (.cells ((olds ++ List.replicate m (Value.int .u8 0)) ++ List.replicate (grownCap w (sLen + m) sCap 5 - (sLen + m)) (Value.int .u8 0)).toArray 5)) := by
  obtain ⟨i, hi, hi'⟩ := Option.map_eq_some_iff.1 Safg.info5
  simp only [Prod.mk.injEq] at hi'
  obtain ⟨hz, hs1, hb1⟩ := hi'
  have hn : ¬ (sLen + m ≤ sCap) := by omega
  have hmn : m ≠ 0 := by omega
  have hw : IntKind.i64.wrap (m : Int) = m := by rw [IntKind.wrap_i64]; omega
  have h63' : ¬ (9223372036854775807 < ((sLen : Int) + (m : Int))) := by omega
  have hfit := growslice_fits (bytes := 1) hg (show (sLen + m) * 1 ≤ 140737488355328 by omega)
  have h48' : ¬ (281474976710656 < Builtin.nextslicecap (sLen + m) sCap * 1) := by omega
  have h48'' : ¬ (281474976710656 < Builtin.nextslicecap (sLen + m) sCap) := by omega
  have h48i : ¬ (281474976710656 < (m : Int)) := by omega
  have hneg : ¬ ((m : Int) < 0) := by omega
  have hu3 : Safg.prog.underlying 3 = some (.int .i64) := by kernel_rfl
  have z1 : (Builtin.zeroCells #[Value.int .u8 0] m) = (List.replicate m (Value.int .u8 0)).toArray := Array.ext' (by rw [zeroCells_one])
  have z2 : (Builtin.zeroCells #[Value.int .u8 0] (grownCap w (sLen + m) sCap 5 - (sLen + m))) = (List.replicate (grownCap w (sLen + m) sCap 5 - (sLen + m)) (Value.int .u8 0)).toArray := Array.ext' (by rw [zeroCells_one])
  unfold grownCap at z2
  simp [Builtin.append_, run_underlying Safg.underlying30, run_underlying hu3, sizeOf, typeInfo, zeroValue, hi, hz, hs1, hb1, asInt, asIntOf, hw, hn, hmn, hneg, h63', h48', h48'', h48i, Question.forced, hold, newRow, grownCap, Value.cells, z1, z2]
  exact congrArg (fun x => w.drew.alloc (Obj.cells x 5)) (Array.ext' (by simp))

theorem run_zeros_room (w : World) (ty : TypeId) (g sLen sCap m : Nat) (hm : 0 < m) (hg : sLen + m ≤ sCap) (hbig : sLen + m ≤ 10000000)
    (hc : ∀ j, j < m → (w.cell? ⟨g, sLen + j, none⟩).isSome = true) (hf : ∀ j, j < m → w.frozen? ⟨g, sLen + j, none⟩ = false) :
    (Builtin.append_ #[30, 3] ty #[.slice (some ⟨g, 0, none⟩) sLen sCap, .int .i64 (m : Int)]).run Safg.prog w = .ok (.slice (some ⟨g, 0, none⟩) (sLen + m) sCap) (w.setCells g sLen (List.replicate m (Value.int .u8 0))) := by
  obtain ⟨i, hi, hi'⟩ := Option.map_eq_some_iff.1 Safg.info5
  simp only [Prod.mk.injEq] at hi'
  obtain ⟨hz, hs1, hb1⟩ := hi'
  have hmn : m ≠ 0 := by omega
  have hw : IntKind.i64.wrap (m : Int) = m := by rw [IntKind.wrap_i64]; omega
  have h48i : ¬ (281474976710656 < (m : Int)) := by omega
  have hneg : ¬ ((m : Int) < 0) := by omega
  have hu3 : Safg.prog.underlying 3 = some (.int .i64) := by kernel_rfl
  have z1 : (Builtin.zeroCells #[Value.int .u8 0] m).toList = (List.replicate m (Value.int .u8 0)) := zeroCells_one m
  have hst := run_storeCells_cells (P := Safg.prog) g sLen (List.replicate m (.int .u8 0)) 0 w (by simpa using hc) (by simpa using hf) (by simp [Value.oneCell'])
  simp only [Nat.add_zero] at hst
  simp [Builtin.append_, run_underlying Safg.underlying30, run_underlying hu3, sizeOf, typeInfo, zeroValue, hi, hz, hs1, hb1, asInt, asIntOf, hw, hg, hmn, hneg, h48i, Value.cells, z1, Addr.add_lit, hst]

theorem replicate_byteV (m : Nat) : (List.replicate m 0).map byteV = List.replicate m (Value.int .u8 0) := by simp [byteV]

/-- 'append(buf, make([]byte, m)...)'. -/
theorem wpList_append_zeros {w : World} {ops : Array Oper} {rest : List Oper} {o : Oper} {a : Act} {Q : Exit → Act → World → Prop} (hgd : o.guard = none) (s x : Operand)
    (ho : o.op = .call { callee := .builtin .append, args := #[s, x], argTypes := #[30, 3] })
    (B : Nat) (bv : Value) (buf : List Nat) (hs : a.eval s = bv) (hv : Vec B w bv (buf.map byteV)) (m : Nat) (M : Int) (hx : a.eval x = .int .i64 M) (hM : M = (m : Int)) (hm : 0 < m) (hbig : buf.length + m ≤ 10000000) (hB : B ≤ w.heap.size)
    (h : ∀ g cap w', B ≤ g → RowV w' g cap ((buf ++ List.replicate m 0).map byteV) → cap ≤ maxLen → Turn bv.ownBlock.toList w w' → (bv.ownBlock = some g ∨ w.heap.size ≤ g) → wpList Safg.prog ops Q rest (a.put o.dst (.slice (some ⟨g, 0, none⟩) (buf.length + m) cap)) w') :
    wpList Safg.prog ops Q (o :: rest) a w := by
  subst hM
  refine wpList_plain hgd fun K hK' => ?_
  have fin : ∀ v' w', (Builtin.append_ #[30, 3] o.type #[bv, .int .i64 (m : Int)]).run Safg.prog w = .ok v' w' → wpList Safg.prog ops Q rest (a.put o.dst v') w' → o.wp Safg.prog a w K Q := by
    intro v' w' hrun hw
    unfold Oper.wp
    simp [execOp, ho, resolve, invoke, builtin, hs, hx, hrun, Result.andThen]
    exact hK' _ _ hw
  have hmb : ∀ n cap, grownCap w (n + m) cap 5 ≤ maxLen ∨ True := fun _ _ => .inr trivial
  have grow : ∀ (base : Option Addr) (sCap : Nat), bv = .slice base buf.length sCap → sCap < buf.length + m → (Builtin.firstCells 1 buf.length (.slice base buf.length sCap)).run Safg.prog w.drew = .ok (buf.map byteV).toArray w.drew → o.wp Safg.prog a w K Q := by
    intro base sCap hbv hlt hold
    have hr := run_zeros_grow w o.type base buf.length sCap m (buf.map byteV) hold hm hlt hbig
    rw [← hbv] at hr
    refine fin _ _ hr ?_
    have hge := grownCap_ge w (buf.length + m) sCap 5
    have hcm : grownCap w (buf.length + m) sCap 5 ≤ maxLen := grownCap_le_maxLen w (buf.length + m) sCap 5 (by unfold maxLen; omega)
    have r := RowV.alloc w.drew (buf.map byteV ++ List.replicate m (Value.int .u8 0)) (List.replicate (grownCap w (buf.length + m) sCap 5 - (buf.length + m)) (Value.int .u8 0)) 5
    have e : (buf.map byteV ++ List.replicate m (Value.int .u8 0)).length + (List.replicate (grownCap w (buf.length + m) sCap 5 - (buf.length + m)) (Value.int .u8 0)).length = grownCap w (buf.length + m) sCap 5 := by simp; omega
    rw [e] at r
    refine h _ _ _ hB (by rw [List.map_append, replicate_byteV]; exact r) hcm ⟨rfl, rfl, rfl, by simp, fun k hk _ => heap_alloc_old w.drew _ (by simpa using hk)⟩ (.inr (Nat.le_refl _))
  have hml : (buf.map byteV).length = buf.length := by simp
  rcases hv with ⟨hbv, hb⟩ | ⟨g, cap, hbv, hg, r, hcm⟩
  · have hb0 : buf = [] := by simpa using hb
    subst hb0
    exact grow none 0 hbv (by simp; omega) (run_firstCells_none _ _ _ _ _)
  · rw [hml] at hbv
    by_cases hr : buf.length + m ≤ cap
    · have hrun := run_zeros_room w o.type g buf.length cap m hm hr hbig (fun j hj => r.room _ (by omega)) (fun j _ => r.free _)
      rw [← hbv] at hrun
      refine fin _ _ hrun ?_
      have hrow := r.lay_end (List.replicate m (Value.int .u8 0)) (by rw [hml]; simp; omega)
      rw [hml] at hrow
      have hob : bv.ownBlock = some g := by rw [hbv]; rfl
      refine h g cap _ hg (by rw [List.map_append, replicate_byteV]; exact hrow) hcm ?_ (.inl hob)
      rw [hob]
      exact Turn.of_only (Only.setCells _ _ (Only.refl g w))
    · exact grow (some ⟨g, 0, none⟩) cap hbv (by omega) (run_firstCells_some (P := Safg.prog) w.drew 1 buf.length ⟨g, 0, none⟩ buf.length cap (buf.map byteV) (by simp) (fun j v hv => by
        rw [Addr.add_lit, Nat.zero_add]
        have := r.cell j v hv
        simpa using this))

theorem ArF.top_lt {B T : Nat} {w : World} {bv : Value} {buf base : List Nat} {F : List (List Nat)} (h : ArF B T w bv buf base F) : F.length ≤ 7 := h.ok.top_le

theorem aLen (w : World) (B T : Nat) (bv : Value) (buf base : List Nat) (F : List (List Nat)) (h : ArF B T w bv buf base F) :
    Calls Safg.prog 54 #[.pointer (some ⟨T, 0, none⟩)] w fun e w' => e = .returned (.int .u32 ((topF F).length : Int)) ∧ Same w w' := by
  rcases split_last F with rfl | ⟨G, t, rfl⟩
  · refine (len_none w B T bv buf base h.ar).mono ?_
    rintro e w1 ⟨rfl, rfl⟩
    exact ⟨rfl, Same.refl _⟩
  · have hlen : (G ++ [t]).length = G.length + 1 := by simp
    have ht := h.fr G.length t (by simp)
    have ok := h.ok
    have ar := h.ar
    rw [hlen] at ok ar
    have htl : t.length = base.getD (G.length + 1) 0 - base.getD G.length 0 := by rw [ht, cutL_length ok.fits]
    refine (len_some w B T bv buf base G.length ar ok _ _ rfl rfl).mono ?_
    rintro e w1 ⟨rfl, s1⟩
    exact ⟨by rw [topF_app, htl], s1⟩

theorem aEnter (w : World) (B T : Nat) (bv : Value) (buf base : List Nat) (F : List (List Nat)) (h : ArF B T w bv buf base F) :
    Calls Safg.prog 51 #[.pointer (some ⟨T, 0, none⟩)] w fun e w' => e = .returned (.bool (decide (F.length < 7))) ∧ APost B T w w' bv (if F.length < 7 then F ++ [[]] else F) := by
  have h7 := h.ok.top_le
  by_cases hf : F.length < 7
  · refine (enter_room w B T bv buf base F.length h.ar (by omega)).mono ?_
    rintro e w1 ⟨rfl, s1⟩
    refine ⟨by rw [decide_eq_true hf], ?_⟩
    rw [if_pos hf]
    refine s1.after ?_
    have a1 := h.ar.setBase (k := F.length + 1) (by omega) (base.getD F.length 0)
    have a2 := a1.setTop (F.length + 1)
    have hlen : (F ++ [[]]).length = F.length + 1 := by simp
    have hc0 := h.ar.cb (F.length + 1) (by omega)
    have hc9 := a1.c9
    have low := h.ok.low
    refine ⟨bv, buf, upd base (F.length + 1) (base.getD F.length 0), ⟨by rw [hlen]; exact a2, ?_, ?_⟩, fun g hg => .inl hg, ?_, fun o ho => ?_⟩
    · rw [hlen]
      refine ⟨by omega, by rw [upd_get (by omega), if_neg (by omega)]; exact h.ok.zero, fun i hi => ?_, ?_, h.ok.most, h.ok.dig, upd_low low (low _)⟩
      · rw [upd_get (by omega), upd_get (by omega)]
        by_cases e : i = F.length
        · subst e
          rw [if_neg (by omega), if_pos rfl]
          omega
        · rw [if_neg (by omega), if_neg (by omega)]
          exact h.ok.up i (by omega)
      · rw [upd_get (by omega), if_pos rfl]; exact h.ok.fits
    · intro i l hl
      have hi : i < F.length + 1 := by rw [← hlen]; exact (List.getElem?_eq_some_iff.1 hl).1
      rw [upd_get (by omega), upd_get (by omega)]
      by_cases e : i = F.length
      · subst e
        simp at hl
        subst hl
        rw [if_neg (by omega), if_pos rfl]
        simp [cutL]
      · rw [if_neg (by omega), if_neg (by omega)]
        rw [List.getElem?_append_left (by omega)] at hl
        exact h.fr i l hl
    · exact ((setT_turn w T _ _).trans (setT_turn _ T _ _)).mono (by simp)
    · rw [setT_cell hc9, if_neg (by omega), setT_cell hc0, if_neg (by omega)]
  · have e7 : F.length = 7 := by omega
    have ha := h.ar
    rw [e7] at ha
    refine (enter_full w B T bv buf base ha).mono ?_
    rintro e w1 ⟨rfl, rfl⟩
    refine ⟨by rw [decide_eq_false hf], ?_⟩
    rw [if_neg hf]
    exact h.stay (Same.refl _)

theorem aLeave (w : World) (B T : Nat) (bv : Value) (buf base : List Nat) (F : List (List Nat)) (h : ArF B T w bv buf base F) :
    Calls Safg.prog 52 #[.pointer (some ⟨T, 0, none⟩)] w fun e w' => e = .returned (.bool (!F.isEmpty)) ∧ APost B T w w' bv F.dropLast := by
  rcases split_last F with rfl | ⟨G, t, rfl⟩
  · refine (leave_none w B T bv buf base h.ar).mono ?_
    rintro e w1 ⟨rfl, rfl⟩
    exact ⟨rfl, h.stay (Same.refl _)⟩
  · have hlen : (G ++ [t]).length = G.length + 1 := by simp
    have ok := h.ok
    have ar := h.ar
    rw [hlen] at ok ar
    have h7 := ok.top_le
    refine (leave_some w B T bv buf base G.length ar (by omega)).mono ?_
    rintro e w1 ⟨rfl, rfl⟩
    refine ⟨by simp, ?_⟩
    have hd : (G ++ [t]).dropLast = G := by simp
    rw [hd]
    refine ⟨bv, buf, base, ⟨ar.setTop G.length, ⟨by omega, ok.zero, fun i hi => ok.up i (by omega), Nat.le_trans (ok.mono (G.length + 1) G.length (by omega) (Nat.le_refl _)) ok.fits, ok.most, ok.dig, ok.low⟩, fun i l hl => ?_⟩, fun g hg => .inl hg, (setT_turn w T _ _).mono (by simp), fun o ho => ?_⟩
    · have hi : i < G.length := (List.getElem?_eq_some_iff.1 hl).1
      exact h.fr i l (by rw [List.getElem?_append_left hi]; exact hl)
    · rw [setT_cell ar.c9, if_neg (by omega)]
end Go.Proofs.Ygcsaf
