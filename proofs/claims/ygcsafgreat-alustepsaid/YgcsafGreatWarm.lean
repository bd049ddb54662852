/-
  'vault.WarmAcct' (175), 'vault.PutNonce' (57).
-/
import Derived.Test.YgcsafGreatVSet
namespace Go.Proofs.YgcsafGreat
open Go.RowKit
set_option linter.unusedVariables false
set_option linter.unusedSimpArgs false

/-- What 'acct' does at an address: the account stands at place i. -/
def AcctGets (B gv : Nat) (s : Vst) (A : List Nat) (acs : List Ac) (tb : Nat → Int) (i : Nat) (x : Ac) : Prop :=
  ∀ w, VOk B w gv s → B ≤ w.heap.size → Calls Safg.prog 156 #[.pointer (some ⟨gv, 0, none⟩), arrV A] w fun e w' => ∃ s1, e = .returned (.tuple #[.int .i32 (i : Int), .bool true]) ∧ s1.accts[i]? = some x ∧ s1.accts = acs ∧ s1.tab = tb ∧ s1.jn = s.jn ∧ s1.js = s.js ∧ s1.jv = s.jv ∧ s1.nm = s.nm ∧ VOk B w' gv s1 ∧ Turn (gv :: s.av.ownBlock.toList) w w' ∧ (s1.av.ownBlock = s.av.ownBlock ∨ ∀ g, s1.av.ownBlock = some g → w.heap.size ≤ g)
theorem acctGets_some {B gv : Nat} {s : Vst} {A : List Nat} (hA : A.length = 20) (dA : D.Dig A) {i : Nat} {x : Ac} (hx : s.accts[i]? = some x) (hxa : x.addr = A) (ht : s.tab (homeN A) = (i : Int)) : AcctGets B gv s A s.accts s.tab i x := fun w hv hB =>
  (acct_some B w gv s hv A hA dA i x hx hxa ht).mono fun e w' ⟨h1, h2⟩ => ⟨s, h1, hx, rfl, rfl, rfl, rfl, rfl, rfl, hv.below h2, Turn.of_below h2 (Nat.le_refl _) _, .inl rfl⟩
theorem acctGets_new {B gv : Nat} {s : Vst} {A : List Nat} (hA : A.length = 20) (dA : D.Dig A) (ht : s.tab (homeN A) = -1) (hfew : s.accts.length < 8) : AcctGets B gv s A (s.accts ++ [newAc A]) (putTab s.tab (homeN A) (s.accts.length : Int)) s.accts.length (newAc A) := fun w hv hB =>
  (acct_new B w gv s hv A hA dA ht hfew hB).mono fun e w' ⟨s', h1, h2, h3, h4, h5, h6, h7, h8, h9, h10⟩ => ⟨s', h1, by rw [h2]; simp, h2, h3, h4, h5, h6, h7, h8, h9, h10⟩

/-- What a setter leaves. -/
def SetPost (B : Nat) (w : World) (gv : Nat) (s : Vst) (acs : List Ac) (tb : Nat → Int) (e : Ending) (w' : World) : Prop :=
  ∃ s2, e = .returned (.bool true) ∧ s2.accts = acs ∧ s2.tab = tb ∧ s2.jn = s.jn + 1 ∧ s2.nm = s.nm ∧ VOk B w' gv s2 ∧ Turn (gv :: (s.av.ownBlock.toList ++ s.jv.ownBlock.toList)) w w' ∧ (s2.av.ownBlock = s.av.ownBlock ∨ ∀ g, s2.av.ownBlock = some g → w.heap.size ≤ g) ∧ (s2.jv.ownBlock = s.jv.ownBlock ∨ ∀ g, s2.jv.ownBlock = some g → w.heap.size ≤ g)
set_option maxRecDepth 100000 in
theorem Safg.info237 : (Safg.prog.info? 237).map (fun i => (i.zero.map (·.cells.size), i.size, i.bytes)) = some (some 9, 9, 80) := by kernel_rfl
set_option maxRecDepth 100000 in
theorem Safg.size237 : (Safg.prog.info? 237).map (·.size) = some 9 := by kernel_rfl
set_option maxRecDepth 100000 in
theorem Safg.zcells237 : ((Safg.prog.info? 237).bind (·.zero)).map (·.cells.size) = some 9 := by kernel_rfl
theorem info237' : ∃ i z, Safg.prog.info? 237 = some i ∧ i.zero = some z ∧ i.size = 9 ∧ i.bytes = 80 ∧ z.cells.size = 9 := by
  obtain ⟨i, hi, h⟩ := Option.map_eq_some_iff.1 Safg.info237
  simp only [Prod.mk.injEq] at h
  obtain ⟨h1, h2, h3⟩ := h
  obtain ⟨z, hz, h4⟩ := Option.map_eq_some_iff.1 h1
  exact ⟨i, z, hi, hz, h2, h3, h4⟩
theorem VOk.jslice {B : Nat} {w : World} {gv : Nat} {s : Vst} (h : VOk B w gv s) : ∃ a c, s.jv = .slice a s.jn c := by
  rcases h.vJ with ⟨h1, h2, _⟩ | ⟨g, cap, h1, _⟩
  · exact ⟨none, 0, by rw [h1, h2]⟩
  · exact ⟨_, _, h1⟩
theorem VecS.blk {size B : Nat} {w : World} {v : Value} {k : Nat} {vs : List Value} (h : VecS size B w v k vs) {g : Nat} (hg : v.ownBlock = some g) : g < w.heap.size := by
  rcases h with ⟨h1, _, _⟩ | ⟨g', cap, h1, _, r, _⟩
  · rw [h1] at hg; cases hg
  · rw [h1] at hg
    obtain rfl : g' = g := by simpa [Value.ownBlock] using hg
    exact r.lt
def jWarm (i : Nat) (t : Bool) : List Value := [.int .u8 4, .int .i32 (i : Int), .int .u64 0, .int .u64 0, .int .u64 0, .int .u64 0, .int .u64 0, .slice none 0 0, .bool t]
def jNonce (i n : Nat) : List Value := [.int .u8 1, .int .i32 (i : Int), .int .u64 (n : Int), .int .u64 0, .int .u64 0, .int .u64 0, .int .u64 0, .slice none 0 0, .bool false]
set_option maxRecDepth 100000 in
theorem builtWarm (i : Nat) (t : Bool) : Safg.prog.built 237 [(0, .int .u8 4), (1, .int .i32 (i : Int)), (5, .bool t)] = some (jWarm i t).toArray := by kernel_rfl
set_option maxRecDepth 100000 in
theorem builtNonce (i n : Nat) : Safg.prog.built 237 [(0, .int .u8 1), (1, .int .i32 (i : Int)), (2, .int .u64 (n : Int))] = some (jNonce i n).toArray := by kernel_rfl
theorem Ac.set_warm {x : Ac} (h : x.addr.length = 20) (t : Bool) : ({ x with warm := t } : Ac).cells = x.cells.take 26 ++ ([Value.bool t] ++ x.cells.drop 27) := by
  have e : x.cells = cellsL x.addr ++ x.rest := rfl
  rw [e, List.take_append, List.drop_append, cellsL_length, h, List.take_of_length_le (by rw [cellsL_length, h]; omega), List.drop_eq_nil_of_le (by rw [cellsL_length, h]; omega)]
  simp [Ac.cells, Ac.rest, Wd4.cells]
theorem Ac.set_nonce {x : Ac} (h : x.addr.length = 20) (n : Nat) : ({ x with nonce := n } : Ac).cells = x.cells.take 20 ++ ([Value.int .u64 (n : Int)] ++ x.cells.drop 21) := by
  have e : x.cells = cellsL x.addr ++ x.rest := rfl
  rw [e, List.take_append, List.drop_append, cellsL_length, h, List.take_of_length_le (by rw [cellsL_length, h]; omega), List.drop_eq_nil_of_le (by rw [cellsL_length, h]; omega)]
  simp [Ac.cells, Ac.rest, Wd4.cells]

theorem keepS2' {w w' : World} {p q : Addr} {u v : Value} (h : w.cell? p = some u ∧ w.cell? q = some v) (b : Below w.heap.size w w') : w'.cell? p = some u ∧ w'.cell? q = some v :=
  ⟨by rw [b.cell (cell_lt h.1)]; exact h.1, by rw [b.cell (cell_lt h.2)]; exact h.2⟩

set_option maxRecDepth 100000 in
set_option maxHeartbeats 8000000 in
theorem warmAcct_any (B : Nat) (w : World) (gv : Nat) (s : Vst) (hv : VOk B w gv s) (hB : B ≤ w.heap.size) (A : List Nat) (hA : A.length = 20) (acs : List Ac) (tb : Nat → Int) (i : Nat) (x : Ac) (HG : AcctGets B gv s A acs tb i x) (hj : s.jn < 60) :
    Calls Safg.prog 175 #[.pointer (some ⟨gv, 0, none⟩), arrV A] w (SetPost B w gv s (acs.set i { x with warm := true }) tb) := by
  obtain ⟨ii, zz, hii, hzz, hsz, hby, hzs⟩ := info237'
  have HR := fun (w : World) (hv : VOk B w gv s) => room_any B w gv s hv
  go_enter Safg.func175, Safg.ntmps175
  go_upto_region 4 with (first | (refine wpList_box_arr rfl 33 (.tmp 1) rfl A rfl ?_; intro w1 g3 hg3 o3 b3) | (go_at_call 171; refine (HR _ (hv.below b3)).mono ?_; rintro e w2 ⟨rfl, hw⟩; subst hw) | (refine wpList_load_arr rfl 33 (.tmp 3) rfl g3 rfl A o3 20 5 Safg.under33 (by rw [hA]; exact Safg.size33) ?_) | (go_at_call 156; refine (HG _ (hv.below b3) (Nat.le_trans hB b3.size)).mono ?_; rintro e w4 ⟨s1, rfl, hat, hac, htb, hjn, hjs, hjve, hnm, hv4, t4, fa⟩))
  have HAC : Hid (s1.accts = acs) := hac
  have HTB : Hid (s1.tab = tb) := htb
  have HJN : Hid (s1.jn = s.jn) := hjn
  have HJV : Hid (s1.jv = s.jv) := hjve
  have HNM : Hid (s1.nm = s.nm) := hnm
  have T4 : Turn (gv :: (s.av.ownBlock.toList ++ s.jv.ownBlock.toList)) w w4 := (Turn.of_below b3 (Nat.le_refl _) _).trans (t4.mono fun k hk => by
    rcases List.mem_cons.1 hk with rfl | hk
    · exact List.mem_cons_self
    · exact List.mem_cons_of_mem _ (List.mem_append_left _ hk))
  have FA : s1.av.ownBlock = s.av.ownBlock ∨ ∀ g, s1.av.ownBlock = some g → w.heap.size ≤ g := by
    rcases fa with h | h
    · exact .inl h
    · exact .inr fun g hg => Nat.le_trans b3.size (h g hg)
  obtain ⟨gA, cap, hav, hBA, hcap, hil, hcell, hfree, hlt, xok⟩ := hv4.spot hat
  have c1 := hcell _ _ (Ac.at_warm xok.len)
  have cA := hv4.cA
  obtain ⟨ja, jc, hjv⟩ := hv4.jslice
  have cJ := hv4.cJ
  have hfew := hv4.few
  obtain ⟨m, hm⟩ : ∃ m, s1.accts.length = m := ⟨_, rfl⟩
  obtain ⟨jn, hjj⟩ : ∃ m, s1.jn = m := ⟨_, rfl⟩
  have HM : Hid (s1.accts.length = m) := hm
  have HJ : Hid (s1.jn = jn) := hjj
  have hjs60 : jn < 60 := by omega
  rw [hm] at hav hcap hil hfew
  rw [hjj] at hjv
  rw [hav] at cA
  rw [hjv] at cJ
  have nAv : gA ≠ gv := by rintro rfl; exact hv4.apA (by rw [hav]; rfl)
  have st4 := t4.size; have sb3 := b3.size
  clear hac htb hjn hjve hnm hm hjj hcell hfree b3 t4 fa HR HG hjs o3
  go_upto_region 6 with fail
  have hvD : VOk B w4.drew gv s1 := hv4.same (Same.drew w4)
  have bD4 : Below w4.heap.size w4 w4.drew := Turn.drew_below w4
  have bD : Below w4.heap.size w4 w4.drew := Turn.drew_below w4
  have cAD : w4.drew.cell? ⟨gv, 0, none⟩ = some (.slice (some ⟨gA, 0, none⟩) m cap) := cA
  have cJD : w4.drew.cell? ⟨gv, 8194, none⟩ = some (.slice ja jn jc) := cJ
  have c1D : w4.drew.cell? ⟨gA, i * 29 + 26, none⟩ = some (.bool x.warm) := c1
  have t1 : (0 : Int) ≤ (i : Int) := by omega
  have t2 : (i : Int) < (m : Int) := by omega
  refine wp_region_held_drew (S := fun w' => w'.cell? ⟨gv, 0, none⟩ = some (.slice (some ⟨gA, 0, none⟩) m cap) ∧ w'.cell? ⟨gA, i * 29 + 26, none⟩ = some (.bool x.warm)) (by kernel_rfl) ⟨cAD, c1D⟩ (fun hHeld => ?_)
  refine wpAnyH_take' (i := 0) (d := 18) (v := .pointer (some ⟨gv, 0, none⟩)) rfl rfl (by kernel_rfl) (by kernel_rfl) (by kernel_rfl) (fun _ _ _ h => h) (Or.inl ⟨by rfl, fun w hw => by go_simp⟩) hHeld ?_
  simp only [Act.put, List.setIfInBounds_toArray, List.set_cons_zero, List.set_cons_succ]
  refine wpAnyH_take' (i := 1) (d := 19) (v := .pointer (some ⟨gv, 0, none⟩)) rfl rfl (by kernel_rfl) (by kernel_rfl) (by kernel_rfl) (fun _ _ _ h => h) (Or.inl ⟨by rfl, fun w hw => by go_simp⟩) hHeld ?_
  simp only [Act.put, List.setIfInBounds_toArray, List.set_cons_zero, List.set_cons_succ]
  refine wpAnyH_take' (i := 2) (d := 20) (v := .pointer (some ⟨gv, 0, none⟩)) rfl rfl (by kernel_rfl) (by kernel_rfl) (by kernel_rfl) (fun _ _ _ h => h) (Or.inl ⟨by rfl, fun w hw => by go_simp⟩) hHeld ?_
  simp only [Act.put, List.setIfInBounds_toArray, List.set_cons_zero, List.set_cons_succ]
  refine wpAnyH_take' (i := 3) (d := 21) (v := .pointer (some ⟨gv, 8194, none⟩)) rfl rfl (by kernel_rfl) (by kernel_rfl) (by kernel_rfl) (fun _ _ _ h => h) (Or.inl ⟨by rfl, fun w hw => by go_simp⟩) hHeld ?_
  simp only [Act.put, List.setIfInBounds_toArray, List.set_cons_zero, List.set_cons_succ]
  refine wpAnyH_take' (i := 5) (d := 23) (v := .int .i32 (i : Int)) rfl rfl (by kernel_rfl) (by kernel_rfl) (by kernel_rfl) (fun _ _ _ h => h) (Or.inl ⟨by rfl, fun w hw => by go_simp⟩) hHeld ?_
  simp only [Act.put, List.setIfInBounds_toArray, List.set_cons_zero, List.set_cons_succ]
  refine wpAnyH_take' (i := 6) (d := 24) (v := .pointer (some ⟨gv, 0, none⟩)) rfl rfl (by kernel_rfl) (by kernel_rfl) (by kernel_rfl) (fun _ _ _ h => h) (Or.inl ⟨by rfl, fun w hw => by go_simp⟩) hHeld ?_
  simp only [Act.put, List.setIfInBounds_toArray, List.set_cons_zero, List.set_cons_succ]
  refine wpAnyH_take' (i := 7) (d := 25) (v := .pointer (some ⟨gv, 0, none⟩)) rfl rfl (by kernel_rfl) (by kernel_rfl) (by kernel_rfl) (fun _ _ _ h => h) (Or.inl ⟨by rfl, fun w hw => by go_simp⟩) hHeld ?_
  simp only [Act.put, List.setIfInBounds_toArray, List.set_cons_zero, List.set_cons_succ]
  refine wpAnyH_take' (i := 8) (d := 26) (v := .pointer (some ⟨gv, 0, none⟩)) rfl rfl (by kernel_rfl) (by kernel_rfl) (by kernel_rfl) (fun _ _ _ h => h) (Or.inl ⟨by rfl, fun w hw => by go_simp⟩) hHeld ?_
  simp only [Act.put, List.setIfInBounds_toArray, List.set_cons_zero, List.set_cons_succ]
  refine wpAnyH_take' (i := 9) (d := 27) (v := .slice (some ⟨gA, 0, none⟩) m cap) rfl rfl (by kernel_rfl) (by kernel_rfl) (by kernel_rfl) (fun _ _ _ h => h) (Or.inl ⟨by rfl, fun w hw => by obtain ⟨h1, h2⟩ := hw; go_simp⟩) hHeld ?_
  simp only [Act.put, List.setIfInBounds_toArray, List.set_cons_zero, List.set_cons_succ]
  refine wpAnyH_take' (i := 10) (d := 28) (v := .int .i32 (i : Int)) rfl rfl (by kernel_rfl) (by kernel_rfl) (by kernel_rfl) (fun _ _ _ h => h) (Or.inl ⟨by rfl, fun w hw => by go_simp⟩) hHeld ?_
  simp only [Act.put, List.setIfInBounds_toArray, List.set_cons_zero, List.set_cons_succ]
  refine wpAnyH_take' (i := 11) (d := 29) (v := .pointer (some ⟨gA, i * 29, none⟩)) rfl rfl (by kernel_rfl) (by kernel_rfl) (by kernel_rfl) (fun _ _ _ h => h) (Or.inl ⟨by rfl, fun w hw => by go_simp⟩) hHeld ?_
  simp only [Act.put, List.setIfInBounds_toArray, List.set_cons_zero, List.set_cons_succ]
  refine wpAnyH_take' (i := 12) (d := 30) (v := .pointer (some ⟨gA, i * 29 + 26, none⟩)) rfl rfl (by kernel_rfl) (by kernel_rfl) (by kernel_rfl) (fun _ _ _ h => h) (Or.inl ⟨by rfl, fun w hw => by go_simp⟩) hHeld ?_
  simp only [Act.put, List.setIfInBounds_toArray, List.set_cons_zero, List.set_cons_succ]
  refine wpAnyH_take' (i := 13) (d := 31) (v := .bool x.warm) rfl rfl (by kernel_rfl) (by kernel_rfl) (by kernel_rfl) (fun _ _ _ h => h) (Or.inl ⟨by rfl, fun w hw => by obtain ⟨h1, h2⟩ := hw; go_simp⟩) hHeld ?_
  simp only [Act.put, List.setIfInBounds_toArray, List.set_cons_zero, List.set_cons_succ]
  refine wpAnyH_take' (i := 14) (d := 32) (v := .agg (jWarm i x.warm).toArray) rfl rfl (by kernel_rfl) (by kernel_rfl) (by kernel_rfl) (fun _ _ _ h => h) (yieldsIf_build (by rfl) 237 _ rfl [(0, .int .u8 4), (1, .int .i32 (i : Int)), (5, .bool x.warm)] rfl _ (builtWarm i x.warm)) hHeld ?_
  simp only [Act.put, List.setIfInBounds_toArray, List.set_cons_zero, List.set_cons_succ]
  refine wpAnyH_twoK 4 15 (by kernel_rfl) rfl rfl rfl rfl ?_ ?_
  · intro K hK
    go_simp
    refine hK.out _ _ hHeld ?_
    clear hK K
    try simp only [Act.put, List.setIfInBounds_toArray, List.set_cons_zero, List.set_cons_succ]
    refine wpAnyH_list 15 (by kernel_rfl) rfl rfl ?_
    refine wpList_slice1 rfl 86 237 (.tmp 32) rfl (jWarm i x.warm) rfl Safg.underlying86 Safg.size237 Safg.zcells237 (by show 0 < 9; omega) (by show 9 ≤ 65536; omega) ?_
    intro w5 g40 hg40 k40 b5
    have hv5 : VOk B w5 gv s1 := hvD.below b5
    have S5 := keepS2' hHeld b5
    have cJ5 := hv5.cJ
    rw [hjv] at cJ5
    have t5 := bD.size; have t5' := b5.size
    refine backTo.nil S5 ?_
    simp only [Act.put, List.setIfInBounds_toArray, List.set_cons_zero, List.set_cons_succ]
    refine wpAnyH_list 16 (by kernel_rfl) rfl rfl ?_
    refine wpList_append_vecS rfl (.tmp 22) (.tmp 33) 86 rfl B 237 ii zz 9 80 Safg.underlying86 hii hzz hsz hby hzs (by omega) s1.jv s1.jn s1.js hjv.symm hv5.vJ ⟨g40, 0, none⟩ 1 1 (jWarm i x.warm) rfl rfl (fun j u hu => by rw [Addr.add_mid]; exact k40.cell j u hu) (by intro u hu; simp only [jWarm, List.mem_cons, List.not_mem_nil, or_false] at hu; rcases hu with rfl | rfl | rfl | rfl | rfl | rfl | rfl | rfl | rfl <;> rfl) (by omega) (by rw [HJ.out]; unfold maxLen; omega) (by rw [HJ.out]; omega) (by omega) ?_
    intro g' cap' w6 hBg r6 hcap6 hm6 t6 hor6
    have hgv6 : gv ∉ s1.jv.ownBlock.toList := fun hm => hv5.apJ (by simpa using hm)
    have hgA6 : gA ∉ s1.jv.ownBlock.toList := fun hm => hv5.apAJ gA (by rw [hav]; rfl) (by simpa using hm)
    have c6 : w6.cell? ⟨gv, 8194, none⟩ = some (.slice ja jn jc) := by rw [t6.cell (p := ⟨gv, 8194, none⟩) hv5.lt hgv6]; exact cJ5
    have f6 : w6.frozen? ⟨gv, 8194, none⟩ = false := by rw [t6.frozen (p := ⟨gv, 8194, none⟩) hv5.lt hgv6]; exact hv5.free 8194
    have lA5 : gA < w5.heap.size := hv5.vA.blk (by rw [hav]; rfl)
    have S6 : w6.cell? ⟨gv, 0, none⟩ = some (.slice (some ⟨gA, 0, none⟩) m cap) ∧ w6.cell? ⟨gA, i * 29 + 26, none⟩ = some (.bool x.warm) := ⟨by rw [t6.cell (p := ⟨gv, 0, none⟩) hv5.lt hgv6]; exact S5.1, by rw [t6.cell (p := ⟨gA, i * 29 + 26, none⟩) lA5 hgA6]; exact S5.2⟩
    have hv7 := hv5.jgrow t6 r6 rfl hv5.jlen hBg hcap6 hm6 (by rw [HJ.out]; omega) hor6
    have n6 : Only gv w6 (w6.setCell ⟨gv, 8194, none⟩ (.slice (some ⟨g', 0, none⟩) (s1.jn + 1) cap')) := (Only.refl _ _).setCell _ _
    have S7 : (w6.setCell ⟨gv, 8194, none⟩ (.slice (some ⟨g', 0, none⟩) (s1.jn + 1) cap')).cell? ⟨gv, 0, none⟩ = some (.slice (some ⟨gA, 0, none⟩) m cap) ∧ (w6.setCell ⟨gv, 8194, none⟩ (.slice (some ⟨g', 0, none⟩) (s1.jn + 1) cap')).cell? ⟨gA, i * 29 + 26, none⟩ = some (.bool x.warm) := ⟨by rw [cell_off (by omega)]; exact S6.1, by rw [cell_far nAv]; exact S6.2⟩
    have sz6 := t6.size
    have TJ : Turn (gv :: s1.jv.ownBlock.toList) w5 (w6.setCell ⟨gv, 8194, none⟩ (.slice (some ⟨g', 0, none⟩) (s1.jn + 1) cap')) := (t6.mono fun k hk => List.mem_cons_of_mem _ hk).trans ((Turn.of_only n6).mono fun k hk => by obtain rfl : k = gv := (by simpa using hk); exact List.mem_cons_self)
    have T7 : Turn (gv :: (s.av.ownBlock.toList ++ s.jv.ownBlock.toList)) w (w6.setCell ⟨gv, 8194, none⟩ (.slice (some ⟨g', 0, none⟩) (s1.jn + 1) cap')) := by
      refine (T4.trans (Turn.of_below (bD4.trans (b5.mono bD4.size)) (Nat.le_refl _) _)).trans (TJ.mono fun k hk => ?_)
      rw [HJV.out] at hk
      rcases List.mem_cons.1 hk with rfl | hk
      · exact List.mem_cons_self
      · exact List.mem_cons_of_mem _ (List.mem_append_right _ hk)
    have JF : s.jv.ownBlock = some g' ∨ w.heap.size ≤ g' := by
      rw [← HJV.out]
      rcases hor6 with h | h
      · exact .inl h
      · exact .inr (by have := T4.size; omega)
    refine backTo.nil S6 ?_
    simp only [Act.put, List.setIfInBounds_toArray, List.set_cons_zero, List.set_cons_succ]
    rw [HJ.out] at hv7 T7 S7
    generalize hsl : (s1.jn + 1) = n1
    refine wpAnyH_take' (i := 17) (d := 35) (v := .pointer (some ⟨gv, 0, none⟩)) rfl rfl (by kernel_rfl) (by kernel_rfl) (by kernel_rfl) (fun _ _ _ h => h) (Or.inl ⟨by rfl, fun w hw => by go_simp⟩) S6 ?_
    simp only [Act.put, List.setIfInBounds_toArray, List.set_cons_zero, List.set_cons_succ]
    refine wpAnyH_take' (i := 18) (d := 36) (v := .pointer (some ⟨gv, 8194, none⟩)) rfl rfl (by kernel_rfl) (by kernel_rfl) (by kernel_rfl) (fun _ _ _ h => h) (Or.inl ⟨by rfl, fun w hw => by go_simp⟩) S6 ?_
    simp only [Act.put, List.setIfInBounds_toArray, List.set_cons_zero, List.set_cons_succ]
    obtain rfl : jn + 1 = n1 := by rw [← hsl, HJ.out]
    refine wpAnyH_oneK 19 (by kernel_rfl) rfl rfl ?_
    intro K hK
    go_simp
    refine hK.out _ _ S7 ?_
    clear hK K
    try simp only [Act.put, List.setIfInBounds_toArray, List.set_cons_zero, List.set_cons_succ]
    refine wpAnyH_done (by kernel_rfl) ?_ _
    have sp := hv7.spot (i := i) (x := x) hat
    obtain ⟨gA', cap2, hav2, _, hcap2, hil2, hcell2, hfree2, hlt2, xok2⟩ := sp
    have eA : gA' = gA ∧ cap2 = cap := by
      have h1 : s1.av = .slice (some ⟨gA', 0, none⟩) s1.accts.length cap2 := hav2
      rw [hav, HM.out] at h1
      injection h1 with h1 h2 h3
      injection h1 with h1
      injection h1 with h1
      exact ⟨h1.symm, h3.symm⟩
    obtain ⟨rfl, rfl⟩ := eA
    have cF := hcell2 _ _ (Ac.at_warm xok2.len)
    have fF := hfree2 (i * 29 + 26)
    have cZ := hv7.cA
    have vF := hv7.setAc (i := i) (x := x) (y := { x with warm := true }) hat (⟨xok2.len, xok2.dig, xok2.nonce, xok2.bal, xok2.code⟩) (f := 26) (news := [.bool true]) (by show 26 + 1 ≤ 29; omega) (Ac.set_warm xok2.len true) hav2
    clear c6 f6 S7 S6 n6 TJ r6 t6 hsl hcell2 hfree2
    generalize w6.setCell ⟨gv, 8194, none⟩ (.slice (some ⟨g', 0, none⟩) (jn + 1) cap') = w7 at *
    have n8 : Only gA' w7 (w7.setCell ⟨gA', i * 29 + 26, none⟩ (.bool true)) := (Only.refl _ _).setCell _ _
    rw [show ({ s1 with jn := jn + 1, js := s1.js ++ jWarm i x.warm, jv := .slice (some ⟨g', 0, none⟩) (jn + 1) cap' } : Vst).av = .slice (some ⟨gA', 0, none⟩) m cap2 from by show s1.av = _; rw [hav]] at cZ
    go_wp2
    go_ret
    refine ⟨_, rfl, ?_, ?_, ?_, ?_, vF, T7.then_ (Turn.of_only n8) (fun k hk hlt => ?_), ?_, ?_⟩
    · show s1.accts.set i _ = _; rw [HAC.out]
    · exact HTB.out
    · show jn + 1 = _; rw [← HJ.out, HJN.out]
    · exact HNM.out
    · obtain rfl : k = gA' := by simpa using hk
      rcases FA with h | h
      · refine List.mem_cons_of_mem _ (List.mem_append_left _ ?_)
        rw [← h, hav]; exact List.mem_cons_self
      · have := h k (by rw [hav]; rfl); omega
    · exact FA
    · rcases JF with h | h
      · exact .inl h.symm
      · refine .inr fun g hg => ?_
        obtain rfl : g' = g := by simpa [Value.ownBlock] using hg
        exact h
  · refine wpList_slice1 rfl 86 237 (.tmp 32) rfl (jWarm i x.warm) rfl Safg.underlying86 Safg.size237 Safg.zcells237 (by show 0 < 9; omega) (by show 9 ≤ 65536; omega) ?_
    intro w5 g40 hg40 k40 b5
    have hv5 : VOk B w5 gv s1 := hvD.below b5
    have S5 := keepS2' hHeld b5
    have cJ5 := hv5.cJ
    rw [hjv] at cJ5
    have t5 := bD.size; have t5' := b5.size
    refine backTo.nil S5 ?_
    simp only [Act.put, List.setIfInBounds_toArray, List.set_cons_zero, List.set_cons_succ]
    refine wpAnyH_oneK 4 (by kernel_rfl) rfl rfl ?_
    intro K hK
    go_simp
    refine hK.out _ _ S5 ?_
    clear hK K
    try simp only [Act.put, List.setIfInBounds_toArray, List.set_cons_zero, List.set_cons_succ]
    refine wpAnyH_list 16 (by kernel_rfl) rfl rfl ?_
    refine wpList_append_vecS rfl (.tmp 22) (.tmp 33) 86 rfl B 237 ii zz 9 80 Safg.underlying86 hii hzz hsz hby hzs (by omega) s1.jv s1.jn s1.js hjv.symm hv5.vJ ⟨g40, 0, none⟩ 1 1 (jWarm i x.warm) rfl rfl (fun j u hu => by rw [Addr.add_mid]; exact k40.cell j u hu) (by intro u hu; simp only [jWarm, List.mem_cons, List.not_mem_nil, or_false] at hu; rcases hu with rfl | rfl | rfl | rfl | rfl | rfl | rfl | rfl | rfl <;> rfl) (by omega) (by rw [HJ.out]; unfold maxLen; omega) (by rw [HJ.out]; omega) (by omega) ?_
    intro g' cap' w6 hBg r6 hcap6 hm6 t6 hor6
    have hgv6 : gv ∉ s1.jv.ownBlock.toList := fun hm => hv5.apJ (by simpa using hm)
    have hgA6 : gA ∉ s1.jv.ownBlock.toList := fun hm => hv5.apAJ gA (by rw [hav]; rfl) (by simpa using hm)
    have c6 : w6.cell? ⟨gv, 8194, none⟩ = some (.slice ja jn jc) := by rw [t6.cell (p := ⟨gv, 8194, none⟩) hv5.lt hgv6]; exact cJ5
    have f6 : w6.frozen? ⟨gv, 8194, none⟩ = false := by rw [t6.frozen (p := ⟨gv, 8194, none⟩) hv5.lt hgv6]; exact hv5.free 8194
    have lA5 : gA < w5.heap.size := hv5.vA.blk (by rw [hav]; rfl)
    have S6 : w6.cell? ⟨gv, 0, none⟩ = some (.slice (some ⟨gA, 0, none⟩) m cap) ∧ w6.cell? ⟨gA, i * 29 + 26, none⟩ = some (.bool x.warm) := ⟨by rw [t6.cell (p := ⟨gv, 0, none⟩) hv5.lt hgv6]; exact S5.1, by rw [t6.cell (p := ⟨gA, i * 29 + 26, none⟩) lA5 hgA6]; exact S5.2⟩
    have hv7 := hv5.jgrow t6 r6 rfl hv5.jlen hBg hcap6 hm6 (by rw [HJ.out]; omega) hor6
    have n6 : Only gv w6 (w6.setCell ⟨gv, 8194, none⟩ (.slice (some ⟨g', 0, none⟩) (s1.jn + 1) cap')) := (Only.refl _ _).setCell _ _
    have S7 : (w6.setCell ⟨gv, 8194, none⟩ (.slice (some ⟨g', 0, none⟩) (s1.jn + 1) cap')).cell? ⟨gv, 0, none⟩ = some (.slice (some ⟨gA, 0, none⟩) m cap) ∧ (w6.setCell ⟨gv, 8194, none⟩ (.slice (some ⟨g', 0, none⟩) (s1.jn + 1) cap')).cell? ⟨gA, i * 29 + 26, none⟩ = some (.bool x.warm) := ⟨by rw [cell_off (by omega)]; exact S6.1, by rw [cell_far nAv]; exact S6.2⟩
    have sz6 := t6.size
    have TJ : Turn (gv :: s1.jv.ownBlock.toList) w5 (w6.setCell ⟨gv, 8194, none⟩ (.slice (some ⟨g', 0, none⟩) (s1.jn + 1) cap')) := (t6.mono fun k hk => List.mem_cons_of_mem _ hk).trans ((Turn.of_only n6).mono fun k hk => by obtain rfl : k = gv := (by simpa using hk); exact List.mem_cons_self)
    have T7 : Turn (gv :: (s.av.ownBlock.toList ++ s.jv.ownBlock.toList)) w (w6.setCell ⟨gv, 8194, none⟩ (.slice (some ⟨g', 0, none⟩) (s1.jn + 1) cap')) := by
      refine (T4.trans (Turn.of_below (bD4.trans (b5.mono bD4.size)) (Nat.le_refl _) _)).trans (TJ.mono fun k hk => ?_)
      rw [HJV.out] at hk
      rcases List.mem_cons.1 hk with rfl | hk
      · exact List.mem_cons_self
      · exact List.mem_cons_of_mem _ (List.mem_append_right _ hk)
    have JF : s.jv.ownBlock = some g' ∨ w.heap.size ≤ g' := by
      rw [← HJV.out]
      rcases hor6 with h | h
      · exact .inl h
      · exact .inr (by have := T4.size; omega)
    refine backTo.nil S6 ?_
    simp only [Act.put, List.setIfInBounds_toArray, List.set_cons_zero, List.set_cons_succ]
    rw [HJ.out] at hv7 T7 S7
    generalize hsl : (s1.jn + 1) = n1
    refine wpAnyH_take' (i := 17) (d := 35) (v := .pointer (some ⟨gv, 0, none⟩)) rfl rfl (by kernel_rfl) (by kernel_rfl) (by kernel_rfl) (fun _ _ _ h => h) (Or.inl ⟨by rfl, fun w hw => by go_simp⟩) S6 ?_
    simp only [Act.put, List.setIfInBounds_toArray, List.set_cons_zero, List.set_cons_succ]
    refine wpAnyH_take' (i := 18) (d := 36) (v := .pointer (some ⟨gv, 8194, none⟩)) rfl rfl (by kernel_rfl) (by kernel_rfl) (by kernel_rfl) (fun _ _ _ h => h) (Or.inl ⟨by rfl, fun w hw => by go_simp⟩) S6 ?_
    simp only [Act.put, List.setIfInBounds_toArray, List.set_cons_zero, List.set_cons_succ]
    obtain rfl : jn + 1 = n1 := by rw [← hsl, HJ.out]
    refine wpAnyH_oneK 19 (by kernel_rfl) rfl rfl ?_
    intro K hK
    go_simp
    refine hK.out _ _ S7 ?_
    clear hK K
    try simp only [Act.put, List.setIfInBounds_toArray, List.set_cons_zero, List.set_cons_succ]
    refine wpAnyH_done (by kernel_rfl) ?_ _
    have sp := hv7.spot (i := i) (x := x) hat
    obtain ⟨gA', cap2, hav2, _, hcap2, hil2, hcell2, hfree2, hlt2, xok2⟩ := sp
    have eA : gA' = gA ∧ cap2 = cap := by
      have h1 : s1.av = .slice (some ⟨gA', 0, none⟩) s1.accts.length cap2 := hav2
      rw [hav, HM.out] at h1
      injection h1 with h1 h2 h3
      injection h1 with h1
      injection h1 with h1
      exact ⟨h1.symm, h3.symm⟩
    obtain ⟨rfl, rfl⟩ := eA
    have cF := hcell2 _ _ (Ac.at_warm xok2.len)
    have fF := hfree2 (i * 29 + 26)
    have cZ := hv7.cA
    have vF := hv7.setAc (i := i) (x := x) (y := { x with warm := true }) hat (⟨xok2.len, xok2.dig, xok2.nonce, xok2.bal, xok2.code⟩) (f := 26) (news := [.bool true]) (by show 26 + 1 ≤ 29; omega) (Ac.set_warm xok2.len true) hav2
    clear c6 f6 S7 S6 n6 TJ r6 t6 hsl hcell2 hfree2
    generalize w6.setCell ⟨gv, 8194, none⟩ (.slice (some ⟨g', 0, none⟩) (jn + 1) cap') = w7 at *
    have n8 : Only gA' w7 (w7.setCell ⟨gA', i * 29 + 26, none⟩ (.bool true)) := (Only.refl _ _).setCell _ _
    rw [show ({ s1 with jn := jn + 1, js := s1.js ++ jWarm i x.warm, jv := .slice (some ⟨g', 0, none⟩) (jn + 1) cap' } : Vst).av = .slice (some ⟨gA', 0, none⟩) m cap2 from by show s1.av = _; rw [hav]] at cZ
    go_wp2
    go_ret
    refine ⟨_, rfl, ?_, ?_, ?_, ?_, vF, T7.then_ (Turn.of_only n8) (fun k hk hlt => ?_), ?_, ?_⟩
    · show s1.accts.set i _ = _; rw [HAC.out]
    · exact HTB.out
    · show jn + 1 = _; rw [← HJ.out, HJN.out]
    · exact HNM.out
    · obtain rfl : k = gA' := by simpa using hk
      rcases FA with h | h
      · refine List.mem_cons_of_mem _ (List.mem_append_left _ ?_)
        rw [← h, hav]; exact List.mem_cons_self
      · have := h k (by rw [hav]; rfl); omega
    · exact FA
    · rcases JF with h | h
      · exact .inl h.symm
      · refine .inr fun g hg => ?_
        obtain rfl : g' = g := by simpa [Value.ownBlock] using hg
        exact h
end Go.Proofs.YgcsafGreat
