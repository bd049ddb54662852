/-
  'Rows.NatU64Said' ('yellow/law.NatU64'). The frame is the skeleton tool's, with the sized builder.
-/
import Derived.Test.YgcsafNatFrom
import Derived.Test.YgcsafOpen
namespace Go.Proofs.Ygcsaf.natU64
open Go.ChangeShapes Go.WideShapes Go.ChangeAt Go.RowKit
set_option linter.unusedVariables false
set_option linter.unusedSimpArgs false

set_option maxHeartbeats 400000 in
theorem holds_no (w : World) (a : Option Addr) (len cap : Nat) (l : List Nat) (h : Rd w a len l) (hc : len ≤ cap) (hm : cap ≤ 281474976710656) (h8 : 8 < (D.trimL l).length) :
    Calls Safg.prog 32 #[.slice a len cap, .int .u64 0, .bool false] w fun e w' => e = .returned (.bool true) ∧ Below w.heap.size w w' := by
  go_enter Safg.func32, Safg.ntmps32
  go_upto_region 2 with (go_at_call 35; refine (norm_any _ _ _ _ l h hc hm).mono ?_; rintro e w1 ⟨na, rfl, hn, b1⟩)
  generalize D.trimL l = T at *
  have hd : decide (((T.length : Nat) : Int) ≤ 8) = false := decide_eq_false (by omega)
  go_wp2
  go_ret
  exact ⟨rfl, b1⟩

set_option maxHeartbeats 400000 in
theorem holds_yes (w : World) (a : Option Addr) (len cap : Nat) (l : List Nat) (h : Rd w a len l) (hc : len ≤ cap) (hm : cap ≤ 281474976710656) (h8 : (D.trimL l).length ≤ 8) :
    Calls Safg.prog 32 #[.slice a len cap, .int .u64 ((D.val l : Nat) : Int), .bool true] w fun e w' => e = .returned (.bool true) ∧ Below w.heap.size w w' := by
  have HV : Hid (D.val (D.trimL l) = D.val l) := D.trimL_val l
  have hlt : D.val l < 18446744073709551616 := by
    have h1 := D.val_lt (D.trimL_dig h.dig)
    rw [HV.out] at h1
    exact Nat.lt_of_lt_of_le h1 (Nat.le_trans (Nat.pow_le_pow_right (by omega) h8) (by decide))
  generalize hx : D.val l = x at *
  clear hx
  go_enter Safg.func32, Safg.ntmps32
  go_upto_region 2 with (go_at_call 35; refine (norm_any _ _ _ _ l h hc hm).mono ?_; rintro e w1 ⟨na, rfl, hn, b1⟩)
  generalize D.trimL l = T at *
  have hd : decide (((T.length : Nat) : Int) ≤ 8) = true := decide_eq_true (by omega)
  go_wp2_with fail
  refine (fromU64_any _ x hlt).mono ?_
  rintro e w2 ⟨fa, fl, rfl, hf, hfv, hfl, b2⟩
  have HF : Hid (D.val fl = x) := hfv
  clear hfv
  go_wp2_with fail
  refine (equalBytes_any _ _ _ _ _ _ _ fl T hf.nat.rd (hn.nat.rd.below b2)).mono ?_
  rintro e w3 ⟨rfl, hw⟩
  subst hw
  go_wp2
  go_ret
  refine ⟨ret_bool (decide_eq_true ?_), b1.trans (b2.mono b1.size)⟩
  exact D.ext hf.nat.rd.dig hn.nat.rd.dig hf.nat.nm hn.nat.nm (by rw [HF.out, HV.out])

set_option maxHeartbeats 400000 in
theorem walk (x : Nat) (hx : x < 18446744073709551616) (a1 : Option Addr) (len1 cap1 : Nat) (l : List Nat) (w : World) (h : Rd w a1 len1 l) (hc : len1 ≤ cap1) (hm : cap1 ≤ 140737488351232) :
    Calls Safg.prog 8 #[.int .u64 (x : Int), .slice a1 len1 cap1] w fun e w' => e = .returned (.bool true) ∧ Below w.heap.size w w' := by
  go_enter Safg.func8, Safg.ntmps8
  go_upto_region 2 with (go_at_call 23; refine (fromU64_any _ x hx).mono ?_; rintro e w1 ⟨xa, xl, rfl, hxm, hxv, hxl, b1⟩)
  have HV : Hid (D.val xl = x) := hxv
  clear hxv
  have h1 := h.below b1
  have hts : Hid (D.trimL xl = xl) := D.trimL_self hxm.nat.rd.dig hxm.nat.nm
  go_wp2_with fail
  refine (u64_any _ xa xl.length xl.length xl hxm.nat.rd (Nat.le_refl _) (by omega)).mono ?_
  rintro e w2 ⟨hw, hcase⟩
  subst hw
  rw [hts.out, HV.out] at hcase
  rcases hcase with ⟨hbad, _⟩ | ⟨_, rfl⟩
  · omega
  go_wp2_with fail
  refine (u64_any _ a1 len1 cap1 l h1 hc (by omega)).mono ?_
  rintro e w2 ⟨hw, hcase⟩
  subst hw
  have hxx : ((x : Int) == (x : Int)) = true := by simp
  rcases hcase with ⟨hbig, rfl⟩ | ⟨hsm, rfl⟩
  · go_wp2_with fail
    refine (natFromHolds_true _ x hx _ xl _ hxm.nat HV).mono ?_
    rintro e w3 ⟨rfl, b3⟩
    have h3 := h1.below b3
    go_wp2_with (go_at_call 32; refine (holds_no _ _ _ _ l h3 hc (by omega) hbig).mono ?_; rintro e w4 ⟨rfl, b4⟩)
    go_ret
    exact ⟨rfl, (b1.trans (b3.mono b1.size)).trans (b4.mono (by have := b1.size; have := b3.size; omega))⟩
  · go_wp2_with fail
    refine (natFromHolds_true _ x hx _ xl _ hxm.nat HV).mono ?_
    rintro e w3 ⟨rfl, b3⟩
    have h3 := h1.below b3
    go_wp2_with (go_at_call 32; refine (holds_yes _ _ _ _ l h3 hc (by omega) hsm).mono ?_; rintro e w4 ⟨rfl, b4⟩)
    go_ret
    exact ⟨rfl, (b1.trans (b3.mono b1.size)).trans (b4.mono (by have := b1.size; have := b3.size; omega))⟩

set_option maxRecDepth 100000 in
theorem lifted (os : Os) (started : os.Started) (H : Type) (enc : TypeId × Value → H) :
    ReturnsInHanded {} Safg.checked os 8 .any (Rows.natU64Spec.pre6 enc Safg.prog Safg.f8 Rows.natU64Row.domain false) (Rows.natU64Spec.post enc Safg.prog Safg.f8 false true false false) := by
  refine returnsInHanded_of_change_sized (C := Safg.checked) own started (by kernel_rfl) Safg.func8
    (ChangeSpec.witness6 (enc := enc) (C := Safg.checked) false ⟨#[], #[.int .u64 0, .slice none 0 0], []⟩ 8 (by kernel_rfl) (by kernel_rfl) (by kernel_rfl) (by kernel_rfl)) ?_
  intro W base args ds gs before hval0 hW hcnd hsz0 _
  have hsz : (DataW.weightsEach Safg.prog (Safg.f8.params.toList ++ Rows.natU64Spec.plain.varTypes Safg.prog) (ds ++ gs)).all (· ≤ reachBytes) = true := hsz0
  have hval : ∀ (j : Nat) t v, Safg.f8.params[j]? = some t → args[j]? = some v → Value.okWide Safg.prog W .any base t v := hval0
  have hW' := hW
  obtain ⟨p, q, hA0, hV, rfl, hfz, hnd⟩ := hW
  have hA : DataW.TrodAll enc Safg.prog W 0 (fun _ => true) true Safg.f8.params.toList args.toList ds p := hA0
  rw [Safg.params8] at hA hval hsz
  obtain ⟨v0, vs0, d0, ds0, p0, q0, hargs, rfl, rfl, h0, r0⟩ := trodAll_cons hA
  obtain ⟨v1, vs1, d1, ds1, p1, q1, rfl, rfl, rfl, h1, r1⟩ := trodAll_cons r0
  obtain ⟨rfl, rfl, rfl⟩ := trodAll_nil r1
  obtain rfl : args = #[v0, v1] := by cases args; simp_all
  obtain ⟨rfl, rfl⟩ := trodVars_none hV
  obtain ⟨a0, rfl, rfl, rfl, w0⟩ := open_int Safg.underlying22 (hval 0 22 v0 rfl rfl) h0
  obtain ⟨a1, len1, cap1, rfl⟩ := okWide_slice Safg.underlying30 (hval 1 30 v1 rfl rfl)
  have k1 := h1
  have lt1 : ∀ x ∈ p1, x.block < W.heap.size := by obtain ⟨m, hm⟩ := k1; exact DataW.trod_lt m _ _ _ hm
  obtain ⟨l, hl, hlc, hcm⟩ := open_bytes h1 (fun elems spare e => sized_slice hsz (j := 1) (t := 30) (e := 5) rfl (by rw [e]; rfl) Safg.underlying30)
  have hb := bounds_u64 w0
  obtain ⟨x, rfl⟩ := Int.eq_ofNat_of_zero_le hb.1
  clear hA0 hval0 hsz0
  refine (walk x (by omega) a1 len1 cap1 l W hl hlc hcm).mono fun e W' ⟨he, bel⟩ => ?_
  subst he
  exact ⟨_, rfl, _, _, _, [], _, [], hW', trodAll_mk1 (shut_bool Safg.underlying4 _), (trodAll_cons_mk (shut_int Safg.underlying22 w0) (trodAll_cons_mk (Below.trod laidOut (by kernel_rfl) (of_decide_eq_true (by kernel_rfl)) k1 bel lt1) trodAll_mk0)), rfl, bel.frame _, fun h => by cases h⟩

theorem over : Rows.natU64Row.holds Safg.pinned (OpenSpec.ofChange Rows.natU64Spec) :=
  OpenClaim.holds_of_wide 8 Safg.f8 rfl rfl rfl rfl rfl rfl rfl ⟨rfl, rfl, rfl, rfl, rfl⟩ rfl rfl rfl rfl rfl (by kernel_rfl) Safg.func8 (by kernel_rfl)
    (of_decide_eq_true (by kernel_rfl)) (by unfold Func.isWrapper; first | (rw [if_pos (by decide +kernel)]; kernel_rfl) | (rw [if_neg (by decide +kernel)]; exact ⟨rfl, rfl⟩))
    (fun os started H enc _ => lifted os started H enc)

/-- THE STATEMENT -/
theorem proved : Rows.NatU64Said := over
#print axioms proved
end Go.Proofs.Ygcsaf.natU64
