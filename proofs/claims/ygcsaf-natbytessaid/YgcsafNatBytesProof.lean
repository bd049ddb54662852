/-
  'Rows.NatBytesSaid' ('yellow/law.NatBytes'). The frame is the skeleton tool's, with the sized builder (the reach pays for 'make').
-/
import Derived.Test.YgcsafNatBytesHolds
import Derived.Test.YgcsafOpen
namespace Go.Proofs.Ygcsaf.natBytes
open Go.ChangeShapes Go.WideShapes Go.ChangeAt Go.RowKit
set_option linter.unusedVariables false
set_option linter.unusedSimpArgs false

set_option maxHeartbeats 400000 in
theorem walk (a0 : Option Addr) (len0 cap0 : Nat) (l : List Nat) (w : World) (h : Rd w a0 len0 l) (hc : len0 ≤ cap0) (hm : cap0 ≤ 140737488351232) :
    Calls Safg.prog 12 #[.slice a0 len0 cap0] w fun e w' => e = .returned (.bool true) ∧ Below w.heap.size w w' := by
  go_enter Safg.func12, Safg.ntmps12
  go_upto_region 2 with (go_at_call 40; refine (fromBE_any _ _ _ _ l h hc (by omega)).mono ?_; rintro e w1 ⟨na, rfl, hn, b1⟩)
  have hN : Hid (D.trimL l.reverse = D.trimL l.reverse) := rfl
  have hlen := D.trimL_len l.reverse
  have hl := h.length
  simp only [List.length_reverse] at hlen
  generalize hNe : D.trimL l.reverse = N at *
  have HN : Hid (N = D.trimL l.reverse) := hNe.symm
  clear hNe hN
  have hTN : Hid (D.trimL N = N) := D.trimL_self hn.rd.dig hn.nm
  go_wp2_with fail
  refine (be32_any _ _ _ _ N hn.rd (Nat.le_refl _) (by omega)).mono ?_
  rintro e w2 ⟨B, ok, rfl, hB, hdB, hok, b2⟩
  go_upto_region 3 with (first | (refine wpList_alloc_arr rfl 28 rfl 32 Safg.zero28 ?_; intro w3 g3 hg3 o3 b3) | (refine wpList_store_arr rfl 28 _ _ rfl g3 rfl _ _ rfl o3 (by simp [hB]) Safg.size28 ?_; intro w4 o4 b4))
  rw [hTN.out] at hok
  have HOK : Hid _ := hok
  clear hok
  have s1 := b1.size
  have s2 := b2.size
  have s3 := b3.size
  have b04 : Below w.heap.size w w4 := (((b1.trans (b2.mono s1)).trans (b3.mono (by omega))).trans (b4.below (by omega)))
  have b14 : Below w1.heap.size w1 w4 := ((b2.trans (b3.mono s2)).trans (b4.below (by omega)))
  have h4 := h.below b04
  have hn4 : IsNat w4 na N := ⟨hn.rd.below b14, hn.nm, hn.nil⟩
  clear o3 b1 b2 b3 b4 b14
  go_wp2_with (first | (go_at_call 42; refine (natBytesHolds_true _ _ _ _ _ l B ok h4 hc (by omega) N HN hn4 hB hdB HOK).mono ?_; rintro e w5 ⟨rfl, b5⟩) | (refine wpList_load_arr rfl 28 _ rfl g3 rfl _ o4 32 5 Safg.underlying28 (by rw [hB]; exact Safg.size28) ?_))
  go_ret
  exact ⟨rfl, b04.trans (b5.mono b04.size)⟩

set_option maxRecDepth 100000 in
theorem lifted (os : Os) (started : os.Started) (H : Type) (enc : TypeId × Value → H) :
    ReturnsInHanded {} Safg.checked os 12 .any (Rows.natBytesSpec.pre6 enc Safg.prog Safg.f12 Rows.natBytesRow.domain false) (Rows.natBytesSpec.post enc Safg.prog Safg.f12 false true false false) := by
  refine returnsInHanded_of_change_sized (C := Safg.checked) own started (by kernel_rfl) Safg.func12
    (ChangeSpec.witness6 (enc := enc) (C := Safg.checked) false ⟨#[], #[.slice none 0 0], []⟩ 8 (by kernel_rfl) (by kernel_rfl) (by kernel_rfl) (by kernel_rfl)) ?_
  intro W base args ds gs before hval0 hW hcnd hsz0 _
  have hsz : (DataW.weightsEach Safg.prog (Safg.f12.params.toList ++ Rows.natBytesSpec.plain.varTypes Safg.prog) (ds ++ gs)).all (· ≤ reachBytes) = true := hsz0
  have hval : ∀ (j : Nat) t v, Safg.f12.params[j]? = some t → args[j]? = some v → Value.okWide Safg.prog W .any base t v := hval0
  have hW' := hW
  obtain ⟨p, q, hA0, hV, rfl, hfz, hnd⟩ := hW
  have hA : DataW.TrodAll enc Safg.prog W 0 (fun _ => true) true Safg.f12.params.toList args.toList ds p := hA0
  rw [Safg.params12] at hA hval hsz
  obtain ⟨v0, vs0, d0, ds0, p0, q0, hargs, rfl, rfl, h0, r0⟩ := trodAll_cons hA
  obtain ⟨rfl, rfl, rfl⟩ := trodAll_nil r0
  obtain rfl : args = #[v0] := by cases args; simp_all
  obtain ⟨rfl, rfl⟩ := trodVars_none hV
  obtain ⟨a0, len0, cap0, rfl⟩ := okWide_slice Safg.underlying30 (hval 0 30 v0 rfl rfl)
  have k0 := h0
  have lt0 : ∀ x ∈ p0, x.block < W.heap.size := by obtain ⟨m, hm⟩ := k0; exact DataW.trod_lt m _ _ _ hm
  obtain ⟨l, hl, hlc, hcm⟩ := open_bytes h0 (fun elems spare e => sized_slice hsz (j := 0) (t := 30) (e := 5) rfl (by rw [e]; rfl) Safg.underlying30)
  clear hA0 hval0 hsz0
  refine (walk a0 len0 cap0 l W hl hlc hcm).mono fun e W' ⟨he, bel⟩ => ?_
  subst he
  exact ⟨_, rfl, _, _, _, [], _, [], hW', trodAll_mk1 (shut_bool Safg.underlying4 _), (trodAll_cons_mk (Below.trod laidOut (by kernel_rfl) (of_decide_eq_true (by kernel_rfl)) k0 bel lt0) trodAll_mk0), rfl, bel.frame _, fun h => by cases h⟩

theorem over : Rows.natBytesRow.holds Safg.pinned (OpenSpec.ofChange Rows.natBytesSpec) :=
  OpenClaim.holds_of_wide 12 Safg.f12 rfl rfl rfl rfl rfl rfl rfl ⟨rfl, rfl, rfl, rfl, rfl⟩ rfl rfl rfl rfl rfl (by kernel_rfl) Safg.func12 (by kernel_rfl)
    (of_decide_eq_true (by kernel_rfl)) (by unfold Func.isWrapper; first | (rw [if_pos (by decide +kernel)]; kernel_rfl) | (rw [if_neg (by decide +kernel)]; exact ⟨rfl, rfl⟩))
    (fun os started H enc _ => lifted os started H enc)

/-- THE STATEMENT -/
theorem proved : Rows.NatBytesSaid := over
#print axioms proved
end Go.Proofs.Ygcsaf.natBytes
