/-
  THE VAULT's RELATION; 'vault.findAcct' (173).
-/
import Derived.Test.YgcsafGreatVecS
import Derived.Test.YgcsafGreatHome
namespace Go.Proofs.YgcsafGreat
open Go.RowKit
set_option linter.unusedVariables false
set_option linter.unusedSimpArgs false

/-- An account of the arena. -/
structure Ac where
  addr : List Nat
  nonce : Nat
  bal : Wd4
  code : Value
  warm : Bool
  made : Bool
  gone : Bool
namespace Ac
def rest (x : Ac) : List Value := .int .u64 (x.nonce : Int) :: (x.bal.cells ++ [x.code, .bool x.warm, .bool x.made, .bool x.gone])
def cells (x : Ac) : List Value := cellsL x.addr ++ x.rest
structure Ok (x : Ac) : Prop where
  len : x.addr.length = 20
  dig : D.Dig x.addr
  nonce : x.nonce < 18446744073709551616
  bal : x.bal.Ok
  code : x.code.oneCell' = true
theorem length {x : Ac} (h : x.addr.length = 20) : x.cells.length = 29 := by simp [cells, rest, cellsL_length, h, Wd4.cells]
end Ac
def acells (l : List Ac) : List Value := l.flatMap Ac.cells
theorem acells_length {l : List Ac} (h : ∀ x ∈ l, x.addr.length = 20) : (acells l).length = l.length * 29 := by
  induction l with
  | nil => rfl
  | cons x r ih =>
    have e : acells (x :: r) = x.cells ++ acells r := rfl
    rw [e, List.length_append, Ac.length (h x (by simp)), ih (fun y hy => h y (by simp [hy])), List.length_cons]
    omega
/-- Cell j of account i. -/
theorem acells_get {l : List Ac} (h : ∀ x ∈ l, x.addr.length = 20) : ∀ {i : Nat} {x : Ac}, l[i]? = some x → ∀ {j : Nat}, j < 29 → (acells l)[i * 29 + j]? = x.cells[j]? := by
  induction l with
  | nil => intro i x hi; simp at hi
  | cons y r ih =>
    intro i x hi j hj
    have e : acells (y :: r) = y.cells ++ acells r := rfl
    have hy := Ac.length (h y (by simp))
    rw [e]
    cases i with
    | zero =>
      obtain rfl : y = x := by simpa using hi
      rw [Nat.zero_mul, Nat.zero_add, List.getElem?_append_left (by omega)]
    | succ i =>
      rw [List.getElem?_append_right (by rw [hy]; omega), hy, show (i + 1) * 29 + j - 29 = i * 29 + j by omega]
      exact ih (fun z hz => h z (by simp [hz])) (by simpa using hi) hj

/-- What the vault bears. -/
structure Vst where
  accts : List Ac
  tab : Nat → Int
  jn : Nat
  js : List Value
  av : Value
  jv : Value
  nm : Nat

structure VOk (B : Nat) (w : World) (gv : Nat) (s : Vst) : Prop where
  lt : gv < w.heap.size
  free : ∀ o, w.frozen? ⟨gv, o, none⟩ = false
  cA : w.cell? ⟨gv, 0, none⟩ = some s.av
  vA : VecS 29 B w s.av s.accts.length (acells s.accts)
  cS : w.cell? ⟨gv, 1, none⟩ = some (.slice none 0 0)
  cT : ∀ j, j < 4096 → w.cell? ⟨gv, 2 + j, none⟩ = some (.int .i32 (s.tab j))
  cJ : w.cell? ⟨gv, 8194, none⟩ = some s.jv
  vJ : VecS 9 B w s.jv s.jn s.js
  cM : ∀ j, j < 16384 → ∃ z, w.cell? ⟨gv, 8195 + j, none⟩ = some (.int .i32 z)
  cN : w.cell? ⟨gv, 24579, none⟩ = some (.int .i32 (s.nm : Int))
  cR : w.cell? ⟨gv, 24580, none⟩ = some (.int .u64 0)
  cL : w.cell? ⟨gv, 24581, none⟩ = some (.slice none 0 0)
  ok : ∀ x ∈ s.accts, x.Ok
  few : s.accts.length ≤ 8
  jfew : s.jn ≤ 64
  apA : s.av.ownBlock ≠ some gv
  apJ : s.jv.ownBlock ≠ some gv
  apAJ : ∀ g, s.av.ownBlock = some g → s.jv.ownBlock ≠ some g
theorem VOk.len {B : Nat} {w : World} {gv : Nat} {s : Vst} (h : VOk B w gv s) : ∀ x ∈ s.accts, x.addr.length = 20 := fun x hx => (h.ok x hx).len
theorem VecS.turn {size B : Nat} {S : List Nat} {w w' : World} {v : Value} {k : Nat} {vs : List Value} (h : VecS size B w v k vs) (t : Turn S w w') (hn : ∀ g, v.ownBlock = some g → g ∉ S) : VecS size B w' v k vs := by
  rcases h with h | ⟨g, cap, rfl, hB, r, h1, h2, h3⟩
  · exact .inl h
  · exact .inr ⟨g, cap, rfl, hB, r.turn t (hn g rfl), h1, h2, h3⟩
/-- Nothing of the vault has turned. -/
theorem VOk.turn {B : Nat} {S : List Nat} {w w' : World} {gv : Nat} {s : Vst} (h : VOk B w gv s) (t : Turn S w w') (h0 : gv ∉ S) (h1 : ∀ g, s.av.ownBlock = some g → g ∉ S) (h2 : ∀ g, s.jv.ownBlock = some g → g ∉ S) : VOk B w' gv s := by
  have e : ∀ o, w'.cell? ⟨gv, o, none⟩ = w.cell? ⟨gv, o, none⟩ := fun o => t.cell (p := ⟨gv, o, none⟩) h.lt h0
  exact ⟨Nat.lt_of_lt_of_le h.lt t.size, fun o => by rw [t.frozen (p := ⟨gv, o, none⟩) h.lt h0]; exact h.free o, by rw [e]; exact h.cA, h.vA.turn t h1, by rw [e]; exact h.cS, fun j hj => by rw [e]; exact h.cT j hj, by rw [e]; exact h.cJ, h.vJ.turn t h2,
    fun j hj => by rw [e]; exact h.cM j hj, by rw [e]; exact h.cN, by rw [e]; exact h.cR, by rw [e]; exact h.cL, h.ok, h.few, h.jfew, h.apA, h.apJ, h.apAJ⟩
theorem VOk.below {B : Nat} {w w' : World} {gv : Nat} {s : Vst} (h : VOk B w gv s) (b : Below w.heap.size w w') : VOk B w' gv s :=
  h.turn (Turn.of_below b (Nat.le_refl _) []) (by simp) (by simp) (by simp)
theorem VOk.same {B : Nat} {w w' : World} {gv : Nat} {s : Vst} (h : VOk B w gv s) (b : Same w w') : VOk B w' gv s := h.below (b.below _)

set_option maxRecDepth 100000 in
set_option maxHeartbeats 2000000 in
/-- No such account. -/
theorem findAcct_none (B : Nat) (w : World) (gv : Nat) (s : Vst) (hv : VOk B w gv s) (A : List Nat) (hA : A.length = 20) (dA : D.Dig A) (ht : s.tab (homeN A) = -1) :
    Calls Safg.prog 173 #[.pointer (some ⟨gv, 0, none⟩), arrV A] w fun e w' => e = .returned (.tuple #[.int .i32 (-1), .int .i32 (homeN A : Int)]) ∧ Below w.heap.size w w' := by
  have hh : homeN A < 4096 := Nat.mod_lt _ (by omega)
  have HH := fun w => acctHome_any w A hA dA
  obtain ⟨p, hp⟩ : ∃ p, homeN A = p := ⟨_, rfl⟩
  rw [hp] at hh ht ⊢
  simp only [hp] at HH
  clear hp
  go_enter Safg.func173, Safg.ntmps173
  go_upto_region 2 with (first | (refine wpList_box_arr rfl 33 (.tmp 1) rfl A rfl ?_; intro w1 g3 hg3 o3 b3) | (refine wpList_load_arr rfl 33 (.tmp 3) rfl g3 rfl A o3 20 5 Safg.under33 (by rw [hA]; exact Safg.size33) ?_) | (go_at_call 309; refine (HH _).mono ?_; rintro e w4 ⟨rfl, b4⟩))
  have bb : Below w.heap.size w w4 := b3.trans (b4.mono b3.size)
  have hc := (hv.below bb).cT p hh
  rw [ht] at hc
  clear b3 b4 o3
  go_upto_region 3 with fail
  go_loopw [6, 7] (fun q i wr => q = .int .u32 (p : Int) ∧ i = .int .i64 0 ∧ wr = w4) (fun _ _ _ => 0)
  case atStart => exact ⟨rfl, rfl, rfl⟩
  case round =>
    obtain ⟨rfl, rfl, rfl⟩ := hrel
    go_wp2
    go_ret2
    exact ⟨rfl, bb⟩

theorem yieldsIf_eql_arr {ops : Array Oper} {S : World → Prop} {o : Oper} {a : Act} (hw : Region.wanted o (yielded ops a.tmps) = true) (ty yt : TypeId) (x y : Operand) (ho : o.op = .binOp .eql ty x y yt)
    (n : Nat) (hu : Safg.prog.underlying ty = some (.array n 5)) (hq : Safg.prog.eqGuardType Safg.prog.depth ty = false) (A B : List Nat) (hx : a.eval x = arrV A) (hy : a.eval y = arrV B) (ha : D.Dig A) (hb : D.Dig B) (la : A.length = n) (lb : B.length = n) :
    YieldsIf Safg.prog ops S o (.bool (decide (A = B))) a :=
  Or.inl ⟨hw, fun w _ => by
    have hg : (eqGuard .eql ty x y (arrV A) (arrV B)).run Safg.prog w = .ok () w := by
      simp [eqGuard, arrV, hq]
    simp only [execOp, ho, hx, hy, Sem.run_bind, hg, Result.andThen_ok, run_eql_arr w ty n hu A B ha hb la lb, Sem.run_pure]⟩

set_option maxRecDepth 100000 in
set_option maxHeartbeats 4000000 in
/-- The account stands at place i. -/
theorem findAcct_some (B : Nat) (w : World) (gv : Nat) (s : Vst) (hv : VOk B w gv s) (A : List Nat) (hA : A.length = 20) (dA : D.Dig A) (i : Nat) (x : Ac) (hx : s.accts[i]? = some x) (hxa : x.addr = A) (ht : s.tab (homeN A) = (i : Int)) :
    Calls Safg.prog 173 #[.pointer (some ⟨gv, 0, none⟩), arrV A] w fun e w' => e = .returned (.tuple #[.int .i32 (i : Int), .int .i32 (-1)]) ∧ Below w.heap.size w w' := by
  have hh : homeN A < 4096 := Nat.mod_lt _ (by omega)
  have HH := fun w => acctHome_any w A hA dA
  obtain ⟨p, hp⟩ : ∃ p, homeN A = p := ⟨_, rfl⟩
  rw [hp] at hh ht
  simp only [hp] at HH
  clear hp
  have hil : i < s.accts.length := (List.getElem?_eq_some_iff.1 hx).1
  have hfew := hv.few
  obtain ⟨n, hn⟩ : ∃ n, s.accts.length = n := ⟨_, rfl⟩
  have hin : i < n := by omega
  go_enter Safg.func173, Safg.ntmps173
  go_upto_region 2 with (first | (refine wpList_box_arr rfl 33 (.tmp 1) rfl A rfl ?_; intro w1 g3 hg3 o3 b3) | (refine wpList_load_arr rfl 33 (.tmp 3) rfl g3 rfl A o3 20 5 Safg.under33 (by rw [hA]; exact Safg.size33) ?_) | (go_at_call 309; refine (HH _).mono ?_; rintro e w4 ⟨rfl, b4⟩))
  have bb : Below w.heap.size w w4 := b3.trans (b4.mono b3.size)
  have o4 : Own w4 g3 A := o3.below b4 o3.lt
  have hv4 := hv.below bb
  have hc := hv4.cT p hh
  rw [ht] at hc
  have cA := hv4.cA
  obtain ⟨gA, cap, hav, rA⟩ : ∃ gA cap, s.av = .slice (some ⟨gA, 0, none⟩) n cap ∧ RowV w4 gA (cap * 29) (acells s.accts) := by
    rcases hv4.vA with ⟨_, h, _⟩ | ⟨g, cap, h1, _, h2, _⟩
    · omega
    · exact ⟨g, cap, by rw [h1, hn], h2⟩
  have hcap : n ≤ cap := by
    have h1 := rA.le
    rw [acells_length hv.len, hn] at h1
    omega
  rw [hav] at cA
  have rng : w4.rangeAt gA (i * 29) (cellsL A) := fun j v hvj => by
    obtain ⟨hj, _⟩ := cellsL_get A j v hvj
    refine rA.cell _ v ?_
    rw [acells_get hv.len hx (by omega)]
    unfold Ac.cells
    rw [hxa, List.getElem?_append_left (by rw [cellsL_length]; exact hj)]
    exact hvj
  clear b3 b4 o3 hv hv4 hx rA hil
  go_upto_region 3 with fail
  go_loopw [6, 7] (fun q k wr => q = .int .u32 (p : Int) ∧ k = .int .i64 0 ∧ wr = w4) (fun _ _ _ => 0)
  case atStart => exact ⟨rfl, rfl, rfl⟩
  case round =>
    obtain ⟨rfl, rfl, rfl⟩ := hrel
    have t1 : decide ((i : Int) < 0) = false := decide_eq_false (by omega)
    have wi : IntKind.i64.wrap (i : Int) = (i : Int) := by simp [IntKind.wrap, IntKind.bits, IntKind.signed]; omega
    have t2 : decide ((i : Int) < (n : Int)) = true := decide_eq_true (by omega)
    go_upto_region 8 with fail
    have oD : Own wr.drew g3 A := (Same.drew wr).own o4
    have rngD : wr.drew.rangeAt gA (i * 29) (cellsL A) := rng
    have cAD : wr.drew.cell? ⟨gv, 0, none⟩ = some (.slice (some ⟨gA, 0, none⟩) n cap) := cA
    refine wp_region_held_drew (S := fun w' => w' = wr.drew) (by kernel_rfl) rfl (fun hHeld => ?_)
    refine wpAnyH_take' (i := 0) (d := 25) (v := .int .i32 (i : Int)) rfl rfl (by kernel_rfl) (by kernel_rfl) (by kernel_rfl) (fun _ _ _ h => h) (Or.inl ⟨by rfl, fun w hw => by subst hw; go_simp⟩) hHeld ?_
    simp only [Act.put, List.setIfInBounds_toArray, List.set_cons_zero, List.set_cons_succ]
    refine wpAnyH_take' (i := 1) (d := 26) (v := .int .i64 (i : Int)) rfl rfl (by kernel_rfl) (by kernel_rfl) (by kernel_rfl) (fun _ _ _ h => h) (Or.inl ⟨by rfl, fun w hw => by subst hw; go_simp⟩) hHeld ?_
    simp only [Act.put, List.setIfInBounds_toArray, List.set_cons_zero, List.set_cons_succ]
    refine wpAnyH_take' (i := 2) (d := 27) (v := .pointer (some ⟨gv, 0, none⟩)) rfl rfl (by kernel_rfl) (by kernel_rfl) (by kernel_rfl) (fun _ _ _ h => h) (Or.inl ⟨by rfl, fun w hw => by subst hw; go_simp⟩) hHeld ?_
    simp only [Act.put, List.setIfInBounds_toArray, List.set_cons_zero, List.set_cons_succ]
    refine wpAnyH_take' (i := 3) (d := 28) (v := .pointer (some ⟨gv, 0, none⟩)) rfl rfl (by kernel_rfl) (by kernel_rfl) (by kernel_rfl) (fun _ _ _ h => h) (Or.inl ⟨by rfl, fun w hw => by subst hw; go_simp⟩) hHeld ?_
    simp only [Act.put, List.setIfInBounds_toArray, List.set_cons_zero, List.set_cons_succ]
    refine wpAnyH_take' (i := 4) (d := 29) (v := .pointer (some ⟨gv, 0, none⟩)) rfl rfl (by kernel_rfl) (by kernel_rfl) (by kernel_rfl) (fun _ _ _ h => h) (Or.inl ⟨by rfl, fun w hw => by subst hw; go_simp⟩) hHeld ?_
    simp only [Act.put, List.setIfInBounds_toArray, List.set_cons_zero, List.set_cons_succ]
    refine wpAnyH_take' (i := 5) (d := 30) (v := .slice (some ⟨gA, 0, none⟩) n cap) rfl rfl (by kernel_rfl) (by kernel_rfl) (by kernel_rfl) (fun _ _ _ h => h) (Or.inl ⟨by rfl, fun w hw => by subst hw; go_simp⟩) hHeld ?_
    simp only [Act.put, List.setIfInBounds_toArray, List.set_cons_zero, List.set_cons_succ]
    refine wpAnyH_take' (i := 6) (d := 31) (v := .int .i64 (n : Int)) rfl rfl (by kernel_rfl) (by kernel_rfl) (by kernel_rfl) (fun _ _ _ h => h) (Or.inl ⟨by rfl, fun w hw => by subst hw; go_simp⟩) hHeld ?_
    simp only [Act.put, List.setIfInBounds_toArray, List.set_cons_zero, List.set_cons_succ]
    refine wpAnyH_take' (i := 7) (d := 32) (v := .bool true) rfl rfl (by kernel_rfl) (by kernel_rfl) (by kernel_rfl) (fun _ _ _ h => h) (Or.inl ⟨by rfl, fun w hw => by subst hw; go_simp⟩) hHeld ?_
    simp only [Act.put, List.setIfInBounds_toArray, List.set_cons_zero, List.set_cons_succ]
    refine wpAnyH_take' (i := 8) (d := 33) (v := .bool true) rfl rfl (by kernel_rfl) (by kernel_rfl) (by kernel_rfl) (fun _ _ _ h => h) (Or.inl ⟨by rfl, fun w hw => by subst hw; go_simp⟩) hHeld ?_
    simp only [Act.put, List.setIfInBounds_toArray, List.set_cons_zero, List.set_cons_succ]
    refine wpAnyH_take' (i := 9) (d := 34) (v := .pointer (some ⟨gv, 0, none⟩)) rfl rfl (by kernel_rfl) (by kernel_rfl) (by kernel_rfl) (fun _ _ _ h => h) (Or.inl ⟨by rfl, fun w hw => by subst hw; go_simp⟩) hHeld ?_
    simp only [Act.put, List.setIfInBounds_toArray, List.set_cons_zero, List.set_cons_succ]
    refine wpAnyH_take' (i := 10) (d := 35) (v := .pointer (some ⟨gv, 0, none⟩)) rfl rfl (by kernel_rfl) (by kernel_rfl) (by kernel_rfl) (fun _ _ _ h => h) (Or.inl ⟨by rfl, fun w hw => by subst hw; go_simp⟩) hHeld ?_
    simp only [Act.put, List.setIfInBounds_toArray, List.set_cons_zero, List.set_cons_succ]
    refine wpAnyH_take' (i := 11) (d := 36) (v := .pointer (some ⟨gv, 0, none⟩)) rfl rfl (by kernel_rfl) (by kernel_rfl) (by kernel_rfl) (fun _ _ _ h => h) (Or.inl ⟨by rfl, fun w hw => by subst hw; go_simp⟩) hHeld ?_
    simp only [Act.put, List.setIfInBounds_toArray, List.set_cons_zero, List.set_cons_succ]
    refine wpAnyH_take' (i := 12) (d := 37) (v := .slice (some ⟨gA, 0, none⟩) n cap) rfl rfl (by kernel_rfl) (by kernel_rfl) (by kernel_rfl) (fun _ _ _ h => h) (Or.inl ⟨by rfl, fun w hw => by subst hw; go_simp⟩) hHeld ?_
    simp only [Act.put, List.setIfInBounds_toArray, List.set_cons_zero, List.set_cons_succ]
    refine wpAnyH_take' (i := 13) (d := 38) (v := .int .i32 (i : Int)) rfl rfl (by kernel_rfl) (by kernel_rfl) (by kernel_rfl) (fun _ _ _ h => h) (Or.inl ⟨by rfl, fun w hw => by subst hw; go_simp⟩) hHeld ?_
    simp only [Act.put, List.setIfInBounds_toArray, List.set_cons_zero, List.set_cons_succ]
    refine wpAnyH_take' (i := 14) (d := 39) (v := .pointer (some ⟨gA, i * 29, none⟩)) rfl rfl (by kernel_rfl) (by kernel_rfl) (by kernel_rfl) (fun _ _ _ h => h) (Or.inl ⟨by rfl, fun w hw => by subst hw; go_simp⟩) hHeld ?_
    simp only [Act.put, List.setIfInBounds_toArray, List.set_cons_zero, List.set_cons_succ]
    refine wpAnyH_take' (i := 15) (d := 40) (v := .pointer (some ⟨gA, i * 29, none⟩)) rfl rfl (by kernel_rfl) (by kernel_rfl) (by kernel_rfl) (fun _ _ _ h => h) (Or.inl ⟨by rfl, fun w hw => by subst hw; go_simp⟩) hHeld ?_
    simp only [Act.put, List.setIfInBounds_toArray, List.set_cons_zero, List.set_cons_succ]
    refine wpAnyH_take' (i := 16) (d := 41) (v := arrV A) rfl rfl (by kernel_rfl) (by kernel_rfl) (by kernel_rfl) (fun _ _ _ h => h) (yieldsIf_load_mid (by rfl) 33 _ rfl gA (i * 29) rfl (cellsL A) _ (fun w hw => by subst hw; exact rngD) Safg.under33 rfl (by rw [cellsL_length, hA]; exact Safg.size33)) hHeld ?_
    simp only [Act.put, List.setIfInBounds_toArray, List.set_cons_zero, List.set_cons_succ]
    refine wpAnyH_take' (i := 17) (d := 42) (v := arrV A) rfl rfl (by kernel_rfl) (by kernel_rfl) (by kernel_rfl) (fun _ _ _ h => h) (yieldsIf_load_mid (by rfl) 33 _ rfl g3 0 rfl (cellsL A) _ (fun w hw => by subst hw; exact oD.range) Safg.under33 rfl (by rw [cellsL_length, hA]; exact Safg.size33)) hHeld ?_
    simp only [Act.put, List.setIfInBounds_toArray, List.set_cons_zero, List.set_cons_succ]
    refine wpAnyH_take' (i := 18) (d := 43) (v := .bool (decide (A = A))) rfl rfl (by kernel_rfl) (by kernel_rfl) (by kernel_rfl) (fun _ _ _ h => h) (yieldsIf_eql_arr (by rfl) 33 33 _ _ rfl 20 Safg.under33 (by kernel_rfl) A A rfl rfl dA dA hA hA) hHeld ?_
    simp only [Act.put, List.setIfInBounds_toArray, List.set_cons_zero, List.set_cons_succ]
    try rw [decide_eq_true (rfl : A = A)]
    refine wpAnyH_take' (i := 19) (d := 44) (v := .bool true) rfl rfl (by kernel_rfl) (by kernel_rfl) (by kernel_rfl) (fun _ _ _ h => h) (Or.inl ⟨by rfl, fun w hw => by subst hw; go_simp⟩) hHeld ?_
    simp only [Act.put, List.setIfInBounds_toArray, List.set_cons_zero, List.set_cons_succ]
    refine wpAnyH_done (by kernel_rfl) ?_ _
    go_wp2
    go_ret2
    exact ⟨rfl, bb.trans ((Turn.drew_below wr).mono bb.size)⟩
end Go.Proofs.YgcsafGreat
