/-
  The words' functions by the meaning 'aluW'; 'flag' (218); equality of words.
-/
import Derived.Test.YgcsafGreatLink
import Derived.Test.YgcsafGreatStep2
import Derived.Test.YgcsafGreatInfo2
import Derived.Test.YgcsafGreatVerdict
import Derived.Test.YgcsafGreatSDiv
import Derived.Test.YgcsafGreatMulMod
import Derived.Test.YgcsafGreatShr
import Derived.Test.YgcsafGreatSext
namespace Go.Proofs.YgcsafGreat
open Go.RowKit
set_option linter.unusedVariables false
set_option linter.unusedSimpArgs false

theorem all_range_nat : ∀ (xs ys : List Nat), xs.length = ys.length → ((List.range xs.length).all fun i => xs.getD i 0 == ys.getD i 0) = (xs == ys)
  | [], [], _ => rfl
  | x :: xs, y :: ys, h => by
    have ih := all_range_nat xs ys (by simpa using h)
    rw [List.length_cons, List.range_succ_eq_map, List.all_cons, List.all_map]
    simp only [List.getD_cons_zero, Function.comp_def, List.getD_cons_succ, ih]
    simp [List.cons_beq_cons]
  | [], _ :: _, h => by simp at h
  | _ :: _, [], h => by simp at h
theorem run_equalIn_u64 {P : Program} (w : World) (d : Nat) (t e : TypeId) (n : Nat) (ht : P.underlying t = some (.array n e)) (he : P.underlying e = some (.int .u64)) (hsz : ∀ w, (sizeOf e).run P w = .ok 1 w)
    (xs ys : List Nat) (hx : xs.length = n) (hy : ys.length = n) :
    (Op.equalIn (d + 2) t (.agg (cellsU xs).toArray) (.agg (cellsU ys).toArray)).run P w = .ok (xs == ys) w := by
  rw [← all_range_nat xs ys (hx.trans hy.symm), hx, List.range_eq_range', Op.equalIn]
  simp only [Sem.run_bind, run_underlying ht, Result.andThen_ok, hsz, Std.Legacy.Range.forIn_eq_forIn_range', Std.Legacy.Range.size, Nat.sub_zero, Nat.add_sub_cancel, Nat.div_one]
  have hl : ∀ i ∈ List.range' 0 n 1, i < n := fun i hi => by simpa using (List.mem_range'_1.1 hi).2
  generalize List.range' 0 n 1 = l at hl ⊢
  induction l with
  | nil => simp
  | cons i l ih =>
    have hi : i < n := hl i (by simp)
    have px : (part e (cellsU xs).toArray (i * 1)).run P w = .ok (.int .u64 ((xs.getD i 0 : Nat) : Int)) w := by
      simp [part, isAgg, run_underlying he, cellsU, List.getD, List.getElem?_eq_getElem (show i < xs.length by omega)]
    have py : (part e (cellsU ys).toArray (i * 1)).run P w = .ok (.int .u64 ((ys.getD i 0 : Nat) : Int)) w := by
      simp [part, isAgg, run_underlying he, cellsU, List.getD, List.getElem?_eq_getElem (show i < ys.length by omega)]
    have pe : (Op.equalIn (d + 1) e (.int .u64 ((xs.getD i 0 : Nat) : Int)) (.int .u64 ((ys.getD i 0 : Nat) : Int))).run P w = .ok (xs.getD i 0 == ys.getD i 0) w := by
      rw [run_equalIn_int w d e .u64 .u64 _ _ he]
      congr 1
      rw [Bool.eq_iff_iff]
      simp
      omega
    simp only [List.forIn_cons, Sem.run_bind, px, py, pe, Result.andThen_ok, List.all_cons]
    cases hb : (xs.getD i 0 == ys.getD i 0)
    · simp
    · simp only [Bool.not_true, Bool.false_eq_true, if_false, Sem.run_pure, Result.andThen_ok, Bool.true_and]
      exact ih fun j hj => hl j (by simp [hj])
theorem wd_inj {a b : Wd4} (ha : a.Ok) (hb : b.Ok) (h : a.val = b.val) : a = b := by
  have e : (beL a).reverse = (beL b).reverse := D.ext_getD (by rw [List.length_reverse, List.length_reverse, beL_length, beL_length]) fun j hj => by
    rw [D.getD_val (fun x hx => beL_dig a x (List.mem_reverse.1 hx)), D.getD_val (fun x hx => beL_dig b x (List.mem_reverse.1 hx)), val_beL ha, val_beL hb, h]
  have e' : beL a = beL b := by rw [← List.reverse_reverse (beL a), e, List.reverse_reverse]
  rw [← wdOf_beL ha, e', wdOf_beL hb]
theorem wd_cells_l (a : Wd4) : a.cells = cellsU a.l := rfl
theorem wd_l_eq {a b : Wd4} (ha : a.Ok) (hb : b.Ok) : (a.l == b.l) = decide (a.val = b.val) := by
  rw [Bool.eq_iff_iff]
  simp only [beq_iff_eq, decide_eq_true_eq]
  constructor
  · intro h
    obtain ⟨x0, x1, x2, x3⟩ := a
    obtain ⟨y0, y1, y2, y3⟩ := b
    simp only [Wd4.l, List.cons.injEq, and_true] at h
    obtain ⟨rfl, rfl, rfl, rfl⟩ := h
    rfl
  · intro h; rw [wd_inj ha hb h]
set_option maxRecDepth 100000 in
theorem Safg.sizeOf31 (w : World) : (sizeOf 31).run Safg.prog w = .ok 1 w := by rfl
theorem run_eql_wd (w : World) (a b : Wd4) (ha : a.Ok) (hb : b.Ok) : (binOp .eql 65 a.v b.v).run Safg.prog w = .ok (.bool (decide (a.val = b.val))) w := by
  unfold Wd4.v
  rw [wd_cells_l, wd_cells_l, run_eql_struct, run_equalIn_u64 w 9998 65 31 4 Safg.under65 (by kernel_rfl) Safg.sizeOf31 a.l b.l rfl rfl, wd_l_eq ha hb]
  rfl
theorem wpList_eql_wd {w : World} {ops : Array Oper} {rest : List Oper} {op : Oper} {a : Act} {Q : Exit → Act → World → Prop} (hgd : op.guard = none) (yt : TypeId) (x y : Operand) (ho : op.op = .binOp .eql 65 x y yt)
    (A B : Wd4) (hx : a.eval x = A.v) (hy : a.eval y = B.v) (ha : A.Ok) (hb : B.Ok)
    (hK : wpList Safg.prog ops Q rest (a.put op.dst (.bool (decide (A.val = B.val)))) w) : wpList Safg.prog ops Q (op :: rest) a w := by
  refine wpList_plain hgd fun K hK' => ?_
  have hq : Safg.prog.eqGuardType Safg.prog.depth 65 = false := by kernel_rfl
  have hg : (eqGuard .eql 65 x y A.v B.v).run Safg.prog w = .ok () w := by
    simp [eqGuard, Wd4.v, hq]
  unfold Oper.wp
  simp only [execOp, ho, hx, hy, Sem.run_bind, hg, Result.andThen_ok, run_eql_wd w A B ha hb, Sem.run_pure, Oper.upon_value]
  exact hK' _ _ hK
/-- A truth as a word. -/
def flagW (t : Bool) : Wd4 := ⟨bit01 t, 0, 0, 0⟩
theorem flagW_ok (t : Bool) : (flagW t).Ok := by cases t <;> exact ⟨by decide, by decide, by decide, by decide⟩
theorem flagW_val (t : Bool) : (flagW t).val = bit01 t := by
  unfold flagW Wd4.val
  simp
set_option maxRecDepth 100000 in
theorem built65' : Safg.prog.built 65 [] = some Wd4.zero.cells.toArray := by kernel_rfl
set_option maxRecDepth 100000 in
set_option maxHeartbeats 1000000 in
theorem flag_any (w : World) (t : Bool) : Calls Safg.prog 218 #[.bool t] w fun e w' => e = .returned (flagW t).v ∧ Below w.heap.size w w' := by
  go_enter Safg.func218, Safg.ntmps218
  cases t
  · go_wp2_with (first | (refine wpList_alloc_agg rfl 65 rfl _ Safg.zero65 ?_; intro w1 g2 hg2 k2 b2) | (refine wpList_build_at rfl 65 _ rfl [] rfl Wd4.zero.cells built65' ?_) | (refine wpList_store_self rfl 65 (.tmp 2) _ rfl g2 0 Wd4.zero.cells rfl rfl k2.cell k2.free Safg.size65 (Wd4.one _) ?_))
    refine bodyPost_ret (results_cell1 Safg.results218 _ w1 g2 _ _ rfl k2 Safg.under65 rfl Safg.size65) rfl ⟨rfl, b2⟩
  · go_wp2_with (first | (refine wpList_alloc_agg rfl 65 rfl _ Safg.zero65 ?_; intro w1 g2 hg2 k2 b2) | (refine wpList_build_at rfl 65 _ rfl [(0, .int .u64 ((1 : Nat) : Int))] rfl (Wd4.cells ⟨1, 0, 0, 0⟩) (built65 1) ?_) | (refine wpList_store_agg rfl 65 (.tmp 2) _ rfl g2 rfl _ (Wd4.cells ⟨1, 0, 0, 0⟩) rfl k2 rfl Safg.size65 (Wd4.one _) ?_; intro w2 k3 n3))
    refine bodyPost_ret (results_cell1 Safg.results218 _ w2 g2 _ _ rfl k3 Safg.under65 rfl Safg.size65) rfl ⟨rfl, b2.trans (n3.below hg2)⟩
/-- A word's function of two words, by 'aluW'. -/
def UOp (o fid : Nat) : Prop := ∀ (w : World) (a b : Wd4) (c : Nat), a.Ok → b.Ok → Calls Safg.prog fid #[a.v, b.v] w (WdRes w (aluW o a.val b.val c))
theorem uop_1 : UOp 1 166 := fun w a b c ha hb => uAdd_any w a b ha hb
theorem uop_2 : UOp 2 56 := fun w a b c ha hb => mulW_any w a b ha hb
theorem uop_3 : UOp 3 59 := fun w a b c ha hb => (uSub_any w a b ha hb).mono fun e w' ⟨s, h1, h2, h3, h4⟩ => ⟨s, h1, by rw [h2]; show _ = (a.val + negW b.val) % b256; rw [negW, Nat.add_mod_mod], h3, h4⟩
theorem uop_4 : UOp 4 208 := fun w a b c ha hb => uDiv_any w a b ha hb
theorem uop_5 : UOp 5 209 := fun w a b c ha hb => sdiv_any w a b ha hb
theorem uop_6 : UOp 6 210 := fun w a b c ha hb => uMod_any w a b ha hb
theorem uop_7 : UOp 7 211 := fun w a b c ha hb => smod_any w a b ha hb
theorem uop_10 : UOp 10 212 := fun w a b c ha hb => exp_any w a b ha hb
theorem uop_11 : UOp 11 213 := fun w a b c ha hb => sext_any w a b ha hb
theorem and_ok {a b : Wd4} (ha : a.Ok) (hb : b.Ok) : Wd4.Ok ⟨a.x0 &&& b.x0, a.x1 &&& b.x1, a.x2 &&& b.x2, a.x3 &&& b.x3⟩ := ⟨Nat.and_lt_two_pow _ (n := 64) hb.h0, Nat.and_lt_two_pow _ (n := 64) hb.h1, Nat.and_lt_two_pow _ (n := 64) hb.h2, Nat.and_lt_two_pow _ (n := 64) hb.h3⟩
theorem or_ok {a b : Wd4} (ha : a.Ok) (hb : b.Ok) : Wd4.Ok ⟨a.x0 ||| b.x0, a.x1 ||| b.x1, a.x2 ||| b.x2, a.x3 ||| b.x3⟩ := ⟨Nat.or_lt_two_pow (n := 64) ha.h0 hb.h0, Nat.or_lt_two_pow (n := 64) ha.h1 hb.h1, Nat.or_lt_two_pow (n := 64) ha.h2 hb.h2, Nat.or_lt_two_pow (n := 64) ha.h3 hb.h3⟩
theorem xor_ok {a b : Wd4} (ha : a.Ok) (hb : b.Ok) : Wd4.Ok ⟨a.x0 ^^^ b.x0, a.x1 ^^^ b.x1, a.x2 ^^^ b.x2, a.x3 ^^^ b.x3⟩ := ⟨Nat.xor_lt_two_pow (n := 64) ha.h0 hb.h0, Nat.xor_lt_two_pow (n := 64) ha.h1 hb.h1, Nat.xor_lt_two_pow (n := 64) ha.h2 hb.h2, Nat.xor_lt_two_pow (n := 64) ha.h3 hb.h3⟩
theorem uop_22 : UOp 22 219 := fun w a b c ha hb => (and_any w a b ha hb).mono fun e w' ⟨h1, h2⟩ => ⟨_, and_ok ha hb, and_val ha hb, h1, h2⟩
theorem uop_23 : UOp 23 220 := fun w a b c ha hb => (or_any w a b ha hb).mono fun e w' ⟨h1, h2⟩ => ⟨_, or_ok ha hb, or_val ha hb, h1, h2⟩
theorem uop_24 : UOp 24 221 := fun w a b c ha hb => (xor_any w a b ha hb).mono fun e w' ⟨h1, h2⟩ => ⟨_, xor_ok ha hb, xor_val ha hb, h1, h2⟩
theorem uop_26 : UOp 26 223 := fun w a b c ha hb => uByte_any w a b ha hb
theorem uop_27 : UOp 27 224 := fun w a b c ha hb => shl_any w a b ha hb
theorem uop_28 : UOp 28 225 := fun w a b c ha hb => shr_any w a b ha hb
theorem uop_29 : UOp 29 226 := fun w a b c ha hb => sar_any w a b ha hb
/-- What an arithmetic instruction leaves. -/
def AluPost (o : Nat) (w : World) (gm gv gc pc gas : Nat) (ws : Nat → Wd4) (C Ls Lc : List Nat) (e : Ending) (w' : World) : Prop :=
  ∃ s : Wd4, s.Ok ∧ s.val = aluW o (ws 2).val (ws 1).val (ws 0).val ∧ e = .returned (.tuple #[]) ∧ Run w' gm gv gc (pc + 1) (3 - takesN o + 1) gas (MF.lay ws (3 - takesN o) s) C Ls Lc ∧ Turn [gm] w w'
end Go.Proofs.YgcsafGreat
