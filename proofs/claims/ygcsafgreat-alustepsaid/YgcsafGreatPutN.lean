/-
  'vault.PutNonce' (57).
-/
import Derived.Test.YgcsafGreatWarm
namespace Go.Proofs.YgcsafGreat
open Go.RowKit
set_option linter.unusedVariables false
set_option linter.unusedSimpArgs false

set_option maxRecDepth 100000 in
set_option maxHeartbeats 8000000 in
theorem putNonce_any (B : Nat) (w : World) (gv : Nat) (s : Vst) (hv : VOk B w gv s) (hB : B ≤ w.heap.size) (A : List Nat) (hA : A.length = 20) (acs : List Ac) (tb : Nat → Int) (i : Nat) (x : Ac) (nn : Nat) (hnn : nn < 18446744073709551616) (HG : AcctGets B gv s A acs tb i x) (hj : s.jn < 60) :
    Calls Safg.prog 57 #[.pointer (some ⟨gv, 0, none⟩), arrV A, .int .u64 (nn : Int)] w (SetPost B w gv s (acs.set i { x with nonce := nn }) tb) := by
  obtain ⟨ii, zz, hii, hzz, hsz, hby, hzs⟩ := info237'
  have HR := fun (w : World) (hv : VOk B w gv s) => room_any B w gv s hv
  go_enter Safg.func57, Safg.ntmps57
  go_upto_region 4 with (first | (refine wpList_box_arr rfl 33 (.tmp 1) rfl A rfl ?_; intro w1 g3 hg3 o3 b3) | (go_at_call 171; refine (HR _ (hv.below b3)).mono ?_; rintro e w2 ⟨rfl, hw⟩; subst hw) | (refine wpList_load_arr rfl 33 (.tmp 4) rfl g3 rfl A o3 20 5 Safg.under33 (by rw [hA]; exact Safg.size33) ?_) | (go_at_call 156; refine (HG _ (hv.below b3) (Nat.le_trans hB b3.size)).mono ?_; rintro e w4 ⟨s1, rfl, hat, hac, htb, hjn, hjs, hjve, hnm, hv4, t4, fa⟩))
  have HAC : Hid (s1.accts = acs) := hac
  have HTB : Hid (s1.tab = tb) := htb
  have HJN : Hid (s1.jn = s.jn) := hjn
  have HJV : Hid (s1.jv = s.jv) := hjve
  have HNM : Hid (s1.nm = s.nm) := hnm
  have T4 : Turn (gv :: (s.av.ownBlock.toList ++ s.jv.ownBlock.toList)) w w4 := (Turn.of_below b3 (Nat.le_refl _) _).trans (t4.mono fun k hk => by
    rcases List.mem_cons.1 hk with rfl | hk
    · exact List.mem_cons_self
    · exact List.mem_cons_of_mem _ (List.mem_append_left _ hk))
  have FA : s1.av.ownBlock = s.av.ownBlock ∨ ∀ g, s1.av.ownBlock = some g → w.heap.size ≤ g := by
    rcases fa with h | h
    · exact .inl h
    · exact .inr fun g hg => Nat.le_trans b3.size (h g hg)
  obtain ⟨gA, cap, hav, hBA, hcap, hil, hcell, hfree, hlt, xok⟩ := hv4.spot hat
  have c1 := hcell _ _ (Ac.at_nonce xok.len)
  have cA := hv4.cA
  obtain ⟨ja, jc, hjv⟩ := hv4.jslice
  have cJ := hv4.cJ
  have hfew := hv4.few
  obtain ⟨m, hm⟩ : ∃ m, s1.accts.length = m := ⟨_, rfl⟩
  obtain ⟨jn, hjj⟩ : ∃ m, s1.jn = m := ⟨_, rfl⟩
  have HM : Hid (s1.accts.length = m) := hm
  have HJ : Hid (s1.jn = jn) := hjj
  have hjs60 : jn < 60 := by omega
  rw [hm] at hav hcap hil hfew
  rw [hjj] at hjv
  rw [hav] at cA
  rw [hjv] at cJ
  have nAv : gA ≠ gv := by rintro rfl; exact hv4.apA (by rw [hav]; rfl)
  have st4 := t4.size; have sb3 := b3.size
  clear hac htb hjn hjve hnm hm hjj hcell hfree b3 t4 fa HR HG hjs o3
  go_upto_region 6 with fail
  have hvD : VOk B w4.drew gv s1 := hv4.same (Same.drew w4)
  have bD4 : Below w4.heap.size w4 w4.drew := Turn.drew_below w4
  have bD : Below w4.heap.size w4 w4.drew := Turn.drew_below w4
  have cAD : w4.drew.cell? ⟨gv, 0, none⟩ = some (.slice (some ⟨gA, 0, none⟩) m cap) := cA
  have cJD : w4.drew.cell? ⟨gv, 8194, none⟩ = some (.slice ja jn jc) := cJ
  have c1D : w4.drew.cell? ⟨gA, i * 29 + 20, none⟩ = some (.int .u64 (x.nonce : Int)) := c1
  have t1 : (0 : Int) ≤ (i : Int) := by omega
  have t2 : (i : Int) < (m : Int) := by omega
  refine wp_region_held_drew (S := fun w' => w'.cell? ⟨gv, 0, none⟩ = some (.slice (some ⟨gA, 0, none⟩) m cap) ∧ w'.cell? ⟨gA, i * 29 + 20, none⟩ = some (.int .u64 (x.nonce : Int))) (by kernel_rfl) ⟨cAD, c1D⟩ (fun hHeld => ?_)
  refine wpAnyH_take' (i := 0) (d := 20) (v := .pointer (some ⟨gv, 0, none⟩)) rfl rfl (by kernel_rfl) (by kernel_rfl) (by kernel_rfl) (fun _ _ _ h => h) (Or.inl ⟨by rfl, fun w hw => by go_simp⟩) hHeld ?_
  simp only [Act.put, List.setIfInBounds_toArray, List.set_cons_zero, List.set_cons_succ]
  refine wpAnyH_take' (i := 1) (d := 21) (v := .pointer (some ⟨gv, 0, none⟩)) rfl rfl (by kernel_rfl) (by kernel_rfl) (by kernel_rfl) (fun _ _ _ h => h) (Or.inl ⟨by rfl, fun w hw => by go_simp⟩) hHeld ?_
  simp only [Act.put, List.setIfInBounds_toArray, List.set_cons_zero, List.set_cons_succ]
  refine wpAnyH_take' (i := 2) (d := 22) (v := .pointer (some ⟨gv, 0, none⟩)) rfl rfl (by kernel_rfl) (by kernel_rfl) (by kernel_rfl) (fun _ _ _ h => h) (Or.inl ⟨by rfl, fun w hw => by go_simp⟩) hHeld ?_
  simp only [Act.put, List.setIfInBounds_toArray, List.set_cons_zero, List.set_cons_succ]
  refine wpAnyH_take' (i := 3) (d := 23) (v := .pointer (some ⟨gv, 8194, none⟩)) rfl rfl (by kernel_rfl) (by kernel_rfl) (by kernel_rfl) (fun _ _ _ h => h) (Or.inl ⟨by rfl, fun w hw => by go_simp⟩) hHeld ?_
  simp only [Act.put, List.setIfInBounds_toArray, List.set_cons_zero, List.set_cons_succ]
  refine wpAnyH_take' (i := 5) (d := 25) (v := .int .i32 (i : Int)) rfl rfl (by kernel_rfl) (by kernel_rfl) (by kernel_rfl) (fun _ _ _ h => h) (Or.inl ⟨by rfl, fun w hw => by go_simp⟩) hHeld ?_
  simp only [Act.put, List.setIfInBounds_toArray, List.set_cons_zero, List.set_cons_succ]
  refine wpAnyH_take' (i := 6) (d := 26) (v := .pointer (some ⟨gv, 0, none⟩)) rfl rfl (by kernel_rfl) (by kernel_rfl) (by kernel_rfl) (fun _ _ _ h => h) (Or.inl ⟨by rfl, fun w hw => by go_simp⟩) hHeld ?_
  simp only [Act.put, List.setIfInBounds_toArray, List.set_cons_zero, List.set_cons_succ]
  refine wpAnyH_take' (i := 7) (d := 27) (v := .pointer (some ⟨gv, 0, none⟩)) rfl rfl (by kernel_rfl) (by kernel_rfl) (by kernel_rfl) (fun _ _ _ h => h) (Or.inl ⟨by rfl, fun w hw => by go_simp⟩) hHeld ?_
  simp only [Act.put, List.setIfInBounds_toArray, List.set_cons_zero, List.set_cons_succ]
  refine wpAnyH_take' (i := 8) (d := 28) (v := .pointer (some ⟨gv, 0, none⟩)) rfl rfl (by kernel_rfl) (by kernel_rfl) (by kernel_rfl) (fun _ _ _ h => h) (Or.inl ⟨by rfl, fun w hw => by go_simp⟩) hHeld ?_
  simp only [Act.put, List.setIfInBounds_toArray, List.set_cons_zero, List.set_cons_succ]
  refine wpAnyH_take' (i := 9) (d := 29) (v := .slice (some ⟨gA, 0, none⟩) m cap) rfl rfl (by kernel_rfl) (by kernel_rfl) (by kernel_rfl) (fun _ _ _ h => h) (Or.inl ⟨by rfl, fun w hw => by obtain ⟨h1, h2⟩ := hw; go_simp⟩) hHeld ?_
  simp only [Act.put, List.setIfInBounds_toArray, List.set_cons_zero, List.set_cons_succ]
  refine wpAnyH_take' (i := 10) (d := 30) (v := .int .i32 (i : Int)) rfl rfl (by kernel_rfl) (by kernel_rfl) (by kernel_rfl) (fun _ _ _ h => h) (Or.inl ⟨by rfl, fun w hw => by go_simp⟩) hHeld ?_
  simp only [Act.put, List.setIfInBounds_toArray, List.set_cons_zero, List.set_cons_succ]
  refine wpAnyH_take' (i := 11) (d := 31) (v := .pointer (some ⟨gA, i * 29, none⟩)) rfl rfl (by kernel_rfl) (by kernel_rfl) (by kernel_rfl) (fun _ _ _ h => h) (Or.inl ⟨by rfl, fun w hw => by go_simp⟩) hHeld ?_
  simp only [Act.put, List.setIfInBounds_toArray, List.set_cons_zero, List.set_cons_succ]
  refine wpAnyH_take' (i := 12) (d := 32) (v := .pointer (some ⟨gA, i * 29 + 20, none⟩)) rfl rfl (by kernel_rfl) (by kernel_rfl) (by kernel_rfl) (fun _ _ _ h => h) (Or.inl ⟨by rfl, fun w hw => by go_simp⟩) hHeld ?_
  simp only [Act.put, List.setIfInBounds_toArray, List.set_cons_zero, List.set_cons_succ]
  refine wpAnyH_take' (i := 13) (d := 33) (v := .int .u64 (x.nonce : Int)) rfl rfl (by kernel_rfl) (by kernel_rfl) (by kernel_rfl) (fun _ _ _ h => h) (Or.inl ⟨by rfl, fun w hw => by obtain ⟨h1, h2⟩ := hw; go_simp⟩) hHeld ?_
  simp only [Act.put, List.setIfInBounds_toArray, List.set_cons_zero, List.set_cons_succ]
  refine wpAnyH_take' (i := 14) (d := 34) (v := .agg (jNonce i x.nonce).toArray) rfl rfl (by kernel_rfl) (by kernel_rfl) (by kernel_rfl) (fun _ _ _ h => h) (yieldsIf_build (by rfl) 237 _ rfl [(0, .int .u8 1), (1, .int .i32 (i : Int)), (2, .int .u64 (x.nonce : Int))] rfl _ (builtNonce i x.nonce)) hHeld ?_
  simp only [Act.put, List.setIfInBounds_toArray, List.set_cons_zero, List.set_cons_succ]
  refine wpAnyH_twoK 4 15 (by kernel_rfl) rfl rfl rfl rfl ?_ ?_
  · intro K hK
    go_simp
    refine hK.out _ _ hHeld ?_
    clear hK K
    try simp only [Act.put, List.setIfInBounds_toArray, List.set_cons_zero, List.set_cons_succ]
    refine wpAnyH_list 15 (by kernel_rfl) rfl rfl ?_
    refine wpList_slice1 rfl 86 237 (.tmp 34) rfl (jNonce i x.nonce) rfl Safg.underlying86 Safg.size237 Safg.zcells237 (by show 0 < 9; omega) (by show 9 ≤ 65536; omega) ?_
    intro w5 g40 hg40 k40 b5
    have hv5 : VOk B w5 gv s1 := hvD.below b5
    have S5 := keepS2' hHeld b5
    have cJ5 := hv5.cJ
    rw [hjv] at cJ5
    have t5 := bD.size; have t5' := b5.size
    refine backTo.nil S5 ?_
    simp only [Act.put, List.setIfInBounds_toArray, List.set_cons_zero, List.set_cons_succ]
    refine wpAnyH_list 16 (by kernel_rfl) rfl rfl ?_
    refine wpList_append_vecS rfl (.tmp 24) (.tmp 35) 86 rfl B 237 ii zz 9 80 Safg.underlying86 hii hzz hsz hby hzs (by omega) s1.jv s1.jn s1.js hjv.symm hv5.vJ ⟨g40, 0, none⟩ 1 1 (jNonce i x.nonce) rfl rfl (fun j u hu => by rw [Addr.add_mid]; exact k40.cell j u hu) (by intro u hu; simp only [jNonce, List.mem_cons, List.not_mem_nil, or_false] at hu; rcases hu with rfl | rfl | rfl | rfl | rfl | rfl | rfl | rfl | rfl <;> rfl) (by omega) (by rw [HJ.out]; unfold maxLen; omega) (by rw [HJ.out]; omega) (by omega) ?_
    intro g' cap' w6 hBg r6 hcap6 hm6 t6 hor6
    have hgv6 : gv ∉ s1.jv.ownBlock.toList := fun hm => hv5.apJ (by simpa using hm)
    have hgA6 : gA ∉ s1.jv.ownBlock.toList := fun hm => hv5.apAJ gA (by rw [hav]; rfl) (by simpa using hm)
    have c6 : w6.cell? ⟨gv, 8194, none⟩ = some (.slice ja jn jc) := by rw [t6.cell (p := ⟨gv, 8194, none⟩) hv5.lt hgv6]; exact cJ5
    have f6 : w6.frozen? ⟨gv, 8194, none⟩ = false := by rw [t6.frozen (p := ⟨gv, 8194, none⟩) hv5.lt hgv6]; exact hv5.free 8194
    have lA5 : gA < w5.heap.size := hv5.vA.blk (by rw [hav]; rfl)
    have S6 : w6.cell? ⟨gv, 0, none⟩ = some (.slice (some ⟨gA, 0, none⟩) m cap) ∧ w6.cell? ⟨gA, i * 29 + 20, none⟩ = some (.int .u64 (x.nonce : Int)) := ⟨by rw [t6.cell (p := ⟨gv, 0, none⟩) hv5.lt hgv6]; exact S5.1, by rw [t6.cell (p := ⟨gA, i * 29 + 20, none⟩) lA5 hgA6]; exact S5.2⟩
    have hv7 := hv5.jgrow t6 r6 rfl hv5.jlen hBg hcap6 hm6 (by rw [HJ.out]; omega) hor6
    have n6 : Only gv w6 (w6.setCell ⟨gv, 8194, none⟩ (.slice (some ⟨g', 0, none⟩) (s1.jn + 1) cap')) := (Only.refl _ _).setCell _ _
    have S7 : (w6.setCell ⟨gv, 8194, none⟩ (.slice (some ⟨g', 0, none⟩) (s1.jn + 1) cap')).cell? ⟨gv, 0, none⟩ = some (.slice (some ⟨gA, 0, none⟩) m cap) ∧ (w6.setCell ⟨gv, 8194, none⟩ (.slice (some ⟨g', 0, none⟩) (s1.jn + 1) cap')).cell? ⟨gA, i * 29 + 20, none⟩ = some (.int .u64 (x.nonce : Int)) := ⟨by rw [cell_off (by omega)]; exact S6.1, by rw [cell_far nAv]; exact S6.2⟩
    have sz6 := t6.size
    have TJ : Turn (gv :: s1.jv.ownBlock.toList) w5 (w6.setCell ⟨gv, 8194, none⟩ (.slice (some ⟨g', 0, none⟩) (s1.jn + 1) cap')) := (t6.mono fun k hk => List.mem_cons_of_mem _ hk).trans ((Turn.of_only n6).mono fun k hk => by obtain rfl : k = gv := (by simpa using hk); exact List.mem_cons_self)
    have T7 : Turn (gv :: (s.av.ownBlock.toList ++ s.jv.ownBlock.toList)) w (w6.setCell ⟨gv, 8194, none⟩ (.slice (some ⟨g', 0, none⟩) (s1.jn + 1) cap')) := by
      refine (T4.trans (Turn.of_below (bD4.trans (b5.mono bD4.size)) (Nat.le_refl _) _)).trans (TJ.mono fun k hk => ?_)
      rw [HJV.out] at hk
      rcases List.mem_cons.1 hk with rfl | hk
      · exact List.mem_cons_self
      · exact List.mem_cons_of_mem _ (List.mem_append_right _ hk)
    have JF : s.jv.ownBlock = some g' ∨ w.heap.size ≤ g' := by
      rw [← HJV.out]
      rcases hor6 with h | h
      · exact .inl h
      · exact .inr (by have := T4.size; omega)
    refine backTo.nil S6 ?_
    simp only [Act.put, List.setIfInBounds_toArray, List.set_cons_zero, List.set_cons_succ]
    rw [HJ.out] at hv7 T7 S7
    generalize hsl : (s1.jn + 1) = n1
    refine wpAnyH_take' (i := 17) (d := 37) (v := .pointer (some ⟨gv, 0, none⟩)) rfl rfl (by kernel_rfl) (by kernel_rfl) (by kernel_rfl) (fun _ _ _ h => h) (Or.inl ⟨by rfl, fun w hw => by go_simp⟩) S6 ?_
    simp only [Act.put, List.setIfInBounds_toArray, List.set_cons_zero, List.set_cons_succ]
    refine wpAnyH_take' (i := 18) (d := 38) (v := .pointer (some ⟨gv, 8194, none⟩)) rfl rfl (by kernel_rfl) (by kernel_rfl) (by kernel_rfl) (fun _ _ _ h => h) (Or.inl ⟨by rfl, fun w hw => by go_simp⟩) S6 ?_
    simp only [Act.put, List.setIfInBounds_toArray, List.set_cons_zero, List.set_cons_succ]
    obtain rfl : jn + 1 = n1 := by rw [← hsl, HJ.out]
    refine wpAnyH_oneK 19 (by kernel_rfl) rfl rfl ?_
    intro K hK
    go_simp
    refine hK.out _ _ S7 ?_
    clear hK K
    try simp only [Act.put, List.setIfInBounds_toArray, List.set_cons_zero, List.set_cons_succ]
    refine wpAnyH_done (by kernel_rfl) ?_ _
    have sp := hv7.spot (i := i) (x := x) hat
    obtain ⟨gA', cap2, hav2, _, hcap2, hil2, hcell2, hfree2, hlt2, xok2⟩ := sp
    have eA : gA' = gA ∧ cap2 = cap := by
      have h1 : s1.av = .slice (some ⟨gA', 0, none⟩) s1.accts.length cap2 := hav2
      rw [hav, HM.out] at h1
      injection h1 with h1 h2 h3
      injection h1 with h1
      injection h1 with h1
      exact ⟨h1.symm, h3.symm⟩
    obtain ⟨rfl, rfl⟩ := eA
    have cF := hcell2 _ _ (Ac.at_nonce xok2.len)
    have fF := hfree2 (i * 29 + 20)
    have cZ := hv7.cA
    have vF := hv7.setAc (i := i) (x := x) (y := { x with nonce := nn }) hat (⟨xok2.len, xok2.dig, hnn, xok2.bal, xok2.code⟩) (f := 20) (news := [.int .u64 (nn : Int)]) (by show 20 + 1 ≤ 29; omega) (Ac.set_nonce xok2.len nn) hav2
    clear c6 f6 S7 S6 n6 TJ r6 t6 hsl hcell2 hfree2
    generalize w6.setCell ⟨gv, 8194, none⟩ (.slice (some ⟨g', 0, none⟩) (jn + 1) cap') = w7 at *
    have n8 : Only gA' w7 (w7.setCell ⟨gA', i * 29 + 20, none⟩ (.int .u64 (nn : Int))) := (Only.refl _ _).setCell _ _
    rw [show ({ s1 with jn := jn + 1, js := s1.js ++ jNonce i x.nonce, jv := .slice (some ⟨g', 0, none⟩) (jn + 1) cap' } : Vst).av = .slice (some ⟨gA', 0, none⟩) m cap2 from by show s1.av = _; rw [hav]] at cZ
    go_wp2
    go_ret
    refine ⟨_, rfl, ?_, ?_, ?_, ?_, vF, T7.then_ (Turn.of_only n8) (fun k hk hlt => ?_), ?_, ?_⟩
    · show s1.accts.set i _ = _; rw [HAC.out]
    · exact HTB.out
    · show jn + 1 = _; rw [← HJ.out, HJN.out]
    · exact HNM.out
    · obtain rfl : k = gA' := by simpa using hk
      rcases FA with h | h
      · refine List.mem_cons_of_mem _ (List.mem_append_left _ ?_)
        rw [← h, hav]; exact List.mem_cons_self
      · have := h k (by rw [hav]; rfl); omega
    · exact FA
    · rcases JF with h | h
      · exact .inl h.symm
      · refine .inr fun g hg => ?_
        obtain rfl : g' = g := by simpa [Value.ownBlock] using hg
        exact h
  · refine wpList_slice1 rfl 86 237 (.tmp 34) rfl (jNonce i x.nonce) rfl Safg.underlying86 Safg.size237 Safg.zcells237 (by show 0 < 9; omega) (by show 9 ≤ 65536; omega) ?_
    intro w5 g40 hg40 k40 b5
    have hv5 : VOk B w5 gv s1 := hvD.below b5
    have S5 := keepS2' hHeld b5
    have cJ5 := hv5.cJ
    rw [hjv] at cJ5
    have t5 := bD.size; have t5' := b5.size
    refine backTo.nil S5 ?_
    simp only [Act.put, List.setIfInBounds_toArray, List.set_cons_zero, List.set_cons_succ]
    refine wpAnyH_oneK 4 (by kernel_rfl) rfl rfl ?_
    intro K hK
    go_simp
    refine hK.out _ _ S5 ?_
    clear hK K
    try simp only [Act.put, List.setIfInBounds_toArray, List.set_cons_zero, List.set_cons_succ]
    refine wpAnyH_list 16 (by kernel_rfl) rfl rfl ?_
    refine wpList_append_vecS rfl (.tmp 24) (.tmp 35) 86 rfl B 237 ii zz 9 80 Safg.underlying86 hii hzz hsz hby hzs (by omega) s1.jv s1.jn s1.js hjv.symm hv5.vJ ⟨g40, 0, none⟩ 1 1 (jNonce i x.nonce) rfl rfl (fun j u hu => by rw [Addr.add_mid]; exact k40.cell j u hu) (by intro u hu; simp only [jNonce, List.mem_cons, List.not_mem_nil, or_false] at hu; rcases hu with rfl | rfl | rfl | rfl | rfl | rfl | rfl | rfl | rfl <;> rfl) (by omega) (by rw [HJ.out]; unfold maxLen; omega) (by rw [HJ.out]; omega) (by omega) ?_
    intro g' cap' w6 hBg r6 hcap6 hm6 t6 hor6
    have hgv6 : gv ∉ s1.jv.ownBlock.toList := fun hm => hv5.apJ (by simpa using hm)
    have hgA6 : gA ∉ s1.jv.ownBlock.toList := fun hm => hv5.apAJ gA (by rw [hav]; rfl) (by simpa using hm)
    have c6 : w6.cell? ⟨gv, 8194, none⟩ = some (.slice ja jn jc) := by rw [t6.cell (p := ⟨gv, 8194, none⟩) hv5.lt hgv6]; exact cJ5
    have f6 : w6.frozen? ⟨gv, 8194, none⟩ = false := by rw [t6.frozen (p := ⟨gv, 8194, none⟩) hv5.lt hgv6]; exact hv5.free 8194
    have lA5 : gA < w5.heap.size := hv5.vA.blk (by rw [hav]; rfl)
    have S6 : w6.cell? ⟨gv, 0, none⟩ = some (.slice (some ⟨gA, 0, none⟩) m cap) ∧ w6.cell? ⟨gA, i * 29 + 20, none⟩ = some (.int .u64 (x.nonce : Int)) := ⟨by rw [t6.cell (p := ⟨gv, 0, none⟩) hv5.lt hgv6]; exact S5.1, by rw [t6.cell (p := ⟨gA, i * 29 + 20, none⟩) lA5 hgA6]; exact S5.2⟩
    have hv7 := hv5.jgrow t6 r6 rfl hv5.jlen hBg hcap6 hm6 (by rw [HJ.out]; omega) hor6
    have n6 : Only gv w6 (w6.setCell ⟨gv, 8194, none⟩ (.slice (some ⟨g', 0, none⟩) (s1.jn + 1) cap')) := (Only.refl _ _).setCell _ _
    have S7 : (w6.setCell ⟨gv, 8194, none⟩ (.slice (some ⟨g', 0, none⟩) (s1.jn + 1) cap')).cell? ⟨gv, 0, none⟩ = some (.slice (some ⟨gA, 0, none⟩) m cap) ∧ (w6.setCell ⟨gv, 8194, none⟩ (.slice (some ⟨g', 0, none⟩) (s1.jn + 1) cap')).cell? ⟨gA, i * 29 + 20, none⟩ = some (.int .u64 (x.nonce : Int)) := ⟨by rw [cell_off (by omega)]; exact S6.1, by rw [cell_far nAv]; exact S6.2⟩
    have sz6 := t6.size
    have TJ : Turn (gv :: s1.jv.ownBlock.toList) w5 (w6.setCell ⟨gv, 8194, none⟩ (.slice (some ⟨g', 0, none⟩) (s1.jn + 1) cap')) := (t6.mono fun k hk => List.mem_cons_of_mem _ hk).trans ((Turn.of_only n6).mono fun k hk => by obtain rfl : k = gv := (by simpa using hk); exact List.mem_cons_self)
    have T7 : Turn (gv :: (s.av.ownBlock.toList ++ s.jv.ownBlock.toList)) w (w6.setCell ⟨gv, 8194, none⟩ (.slice (some ⟨g', 0, none⟩) (s1.jn + 1) cap')) := by
      refine (T4.trans (Turn.of_below (bD4.trans (b5.mono bD4.size)) (Nat.le_refl _) _)).trans (TJ.mono fun k hk => ?_)
      rw [HJV.out] at hk
      rcases List.mem_cons.1 hk with rfl | hk
      · exact List.mem_cons_self
      · exact List.mem_cons_of_mem _ (List.mem_append_right _ hk)
    have JF : s.jv.ownBlock = some g' ∨ w.heap.size ≤ g' := by
      rw [← HJV.out]
      rcases hor6 with h | h
      · exact .inl h
      · exact .inr (by have := T4.size; omega)
    refine backTo.nil S6 ?_
    simp only [Act.put, List.setIfInBounds_toArray, List.set_cons_zero, List.set_cons_succ]
    rw [HJ.out] at hv7 T7 S7
    generalize hsl : (s1.jn + 1) = n1
    refine wpAnyH_take' (i := 17) (d := 37) (v := .pointer (some ⟨gv, 0, none⟩)) rfl rfl (by kernel_rfl) (by kernel_rfl) (by kernel_rfl) (fun _ _ _ h => h) (Or.inl ⟨by rfl, fun w hw => by go_simp⟩) S6 ?_
    simp only [Act.put, List.setIfInBounds_toArray, List.set_cons_zero, List.set_cons_succ]
    refine wpAnyH_take' (i := 18) (d := 38) (v := .pointer (some ⟨gv, 8194, none⟩)) rfl rfl (by kernel_rfl) (by kernel_rfl) (by kernel_rfl) (fun _ _ _ h => h) (Or.inl ⟨by rfl, fun w hw => by go_simp⟩) S6 ?_
    simp only [Act.put, List.setIfInBounds_toArray, List.set_cons_zero, List.set_cons_succ]
    obtain rfl : jn + 1 = n1 := by rw [← hsl, HJ.out]
    refine wpAnyH_oneK 19 (by kernel_rfl) rfl rfl ?_
    intro K hK
    go_simp
    refine hK.out _ _ S7 ?_
    clear hK K
    try simp only [Act.put, List.setIfInBounds_toArray, List.set_cons_zero, List.set_cons_succ]
    refine wpAnyH_done (by kernel_rfl) ?_ _
    have sp := hv7.spot (i := i) (x := x) hat
    obtain ⟨gA', cap2, hav2, _, hcap2, hil2, hcell2, hfree2, hlt2, xok2⟩ := sp
    have eA : gA' = gA ∧ cap2 = cap := by
      have h1 : s1.av = .slice (some ⟨gA', 0, none⟩) s1.accts.length cap2 := hav2
      rw [hav, HM.out] at h1
      injection h1 with h1 h2 h3
      injection h1 with h1
      injection h1 with h1
      exact ⟨h1.symm, h3.symm⟩
    obtain ⟨rfl, rfl⟩ := eA
    have cF := hcell2 _ _ (Ac.at_nonce xok2.len)
    have fF := hfree2 (i * 29 + 20)
    have cZ := hv7.cA
    have vF := hv7.setAc (i := i) (x := x) (y := { x with nonce := nn }) hat (⟨xok2.len, xok2.dig, hnn, xok2.bal, xok2.code⟩) (f := 20) (news := [.int .u64 (nn : Int)]) (by show 20 + 1 ≤ 29; omega) (Ac.set_nonce xok2.len nn) hav2
    clear c6 f6 S7 S6 n6 TJ r6 t6 hsl hcell2 hfree2
    generalize w6.setCell ⟨gv, 8194, none⟩ (.slice (some ⟨g', 0, none⟩) (jn + 1) cap') = w7 at *
    have n8 : Only gA' w7 (w7.setCell ⟨gA', i * 29 + 20, none⟩ (.int .u64 (nn : Int))) := (Only.refl _ _).setCell _ _
    rw [show ({ s1 with jn := jn + 1, js := s1.js ++ jNonce i x.nonce, jv := .slice (some ⟨g', 0, none⟩) (jn + 1) cap' } : Vst).av = .slice (some ⟨gA', 0, none⟩) m cap2 from by show s1.av = _; rw [hav]] at cZ
    go_wp2
    go_ret
    refine ⟨_, rfl, ?_, ?_, ?_, ?_, vF, T7.then_ (Turn.of_only n8) (fun k hk hlt => ?_), ?_, ?_⟩
    · show s1.accts.set i _ = _; rw [HAC.out]
    · exact HTB.out
    · show jn + 1 = _; rw [← HJ.out, HJN.out]
    · exact HNM.out
    · obtain rfl : k = gA' := by simpa using hk
      rcases FA with h | h
      · refine List.mem_cons_of_mem _ (List.mem_append_left _ ?_)
        rw [← h, hav]; exact List.mem_cons_self
      · have := h k (by rw [hav]; rfl); omega
    · exact FA
    · rcases JF with h | h
      · exact .inl h.symm
      · refine .inr fun g hg => ?_
        obtain rfl : g' = g := by simpa [Value.ownBlock] using hg
        exact h
end Go.Proofs.YgcsafGreat
