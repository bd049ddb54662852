import Derived.Test.YgcsafTx
import Derived.Deep.RegionHeld3
import Derived.Deep.DrawnRows
namespace Go.Proofs.Ygcsaf
open Go.RowKit
set_option linter.unusedVariables false
set_option linter.unusedSimpArgs false
attribute [local go_sem ↓] Go.wp_at_zero Go.wp_at_succ

/-- How many of the first k bytes are zero. -/
def zc (l : List Nat) : Nat → Nat
  | 0 => 0
  | k + 1 => zc l k + if l.getD k 0 = 0 then 1 else 0
theorem zc_le (l : List Nat) (k : Nat) : zc l k ≤ k := by
  induction k with
  | zero => simp [zc]
  | succ k ih => rw [zc]; split <;> omega
theorem dgp_zc (l : List Nat) (k : Nat) : dgp l k + 12 * zc l k = 16 * k := by
  induction k with
  | zero => simp [zc, dgp]
  | succ k ih => rw [zc, dgp]; split <;> omega

/-- A cell of old memory, and old memory whole, behind a callee that turned none of it. -/
theorem keepS {w6 wc wn : World} {p : Addr} {v : Value} (hp : p.block < w6.heap.size) (hb : Below wc.heap.size wc wn) (hS : wc.cell? p = some v ∧ Below w6.heap.size w6 wc) : wn.cell? p = some v ∧ Below w6.heap.size w6 wn :=
  ⟨by rw [hb.cell (Nat.lt_of_lt_of_le hp hS.2.size)]; exact hS.1, hS.2.trans (hb.mono hS.2.size)⟩

set_option maxRecDepth 100000 in
set_option maxHeartbeats 4000000 in
theorem ypIntrinsic_any (w : World) (cs : List Value) (cr : Bool) (da : Option Addr) (dc : Nat) (Dt : List Nat) (aa : Option Addr) (ac : Nat) (K : List Nat) (h : Tx w cs cr da dc Dt aa ac K) :
    Calls Safg.prog 49 #[.agg cs.toArray] w fun e w' => ∃ a' l, e = .returned (.slice a' l.length l.length) ∧ IsNat w' a' l ∧ D.val l = gas cr Dt K ∧ l.length ≤ 1000 ∧ Below w.heap.size w w' := by
  have hdl := h.dl
  have hkl := h.kl
  go_enter Safg.func49, Safg.ntmps49
  go_upto_region 1 with (refine wpList_box_agg rfl 33 _ rfl cs rfl ?_; intro w1 g hg k1 b1)
  go_upto_region 2 with (go_at_call 88; refine (num_any _ 21000 (by omega)).mono ?_; rintro e w2 ⟨ga, gl, rfl, gm, gv, gle, b2⟩)
  have b02 := b1.trans (b2.mono b1.size)
  have h2 := h.below b02
  have k2 := k1.below b2 k1.lt
  have f107 := k2.get h.c107
  have gn := gm.nat
  have GV : Hid (D.val gl = 21000) := gv
  clear gm gv k1 b1 b2
  go_upto_region 4 with fail
  go_loop [4, 13] (fun zv iv => ∃ k : Nat, k ≤ Dt.length ∧ iv = .int .i64 k ∧ zv = .int .u64 ((zc Dt k : Nat) : Int)) (fun _ iv => Dt.length - (intOf iv).toNat)
  case atStart => exact ⟨0, Nat.zero_le _, rfl, rfl⟩
  case round =>
    obtain ⟨k, hk, rfl, rfl⟩ := hrel
    have hle := zc_le Dt k
    by_cases hkn : k < Dt.length
    · obtain ⟨b, off, e1, hb1, hc1⟩ := h2.data.cell k hkn
      have HD : Hid (zc Dt (k + 1) = zc Dt k + if Dt.getD k 0 = 0 then 1 else 0) := rfl
      generalize zc Dt k = s at *
      by_cases hz : Dt.getD k 0 = 0
      · rw [hz] at hc1 HD
        subst e1
        go_wp2
        go_round
        case rel => exact ⟨k + 1, by omega, by go_num, by rw [HD.out]; simp⟩
        case measure => simp [intOf]; omega
      · have HZ : Hid (¬ Dt.getD k 0 = 0) := hz
        generalize Dt.getD k 0 = x at hc1 hz HD HZ
        have hz' : (((x : Nat) : Int) == 0) = false := by simpa using hz
        subst e1
        go_wp2
        go_round
        case rel => exact ⟨k + 1, by omega, by go_num, by rw [HD.out, if_neg HZ.out]; simp⟩
        case measure => simp [intOf]; omega
    · have hkD : k = Dt.length := by omega
      subst hkD
      have DZ : Hid (dgp Dt Dt.length + 12 * zc Dt Dt.length = 16 * Dt.length) := dgp_zc Dt Dt.length
      generalize zc Dt Dt.length = z at *
      -- region 9
      go_wp2_with fail
      refine (num_any _ 4 (by omega)).mono ?_
      rintro e w3 ⟨a3, l3, rfl, m3, v3, n3, b3⟩
      have V3 : Hid (D.val l3 = 4) := v3
      clear v3
      go_wp2_with fail
      refine (num_any _ z (by omega)).mono ?_
      rintro e w4 ⟨a4, l4, rfl, m4, v4, n4, b4⟩
      have V4 : Hid (D.val l4 = z) := v4
      clear v4
      go_wp2_with fail
      refine (mul_any _ _ _ _ _ _ _ l3 l4 (m3.nat.rd.below b4) m4.nat.rd (Nat.le_refl _) (Nat.le_refl _) (by omega) (by omega) (by omega)).mono ?_
      rintro e w5 ⟨a5, l5, rfl, m5, v5, n5, b5⟩
      have V5 : Hid (D.val l5 = 4 * z) := by show _ = _; rw [v5, V3.out, V4.out]
      clear v5
      go_wp2_with fail
      refine (add_any _ _ _ _ _ _ _ gl l5 (((gn.rd.below b3).below b4).below b5) m5.nat.rd (Nat.le_refl _) (Nat.le_refl _) (by omega) (by omega)).mono ?_
      rintro e w6 ⟨a6, l6, rfl, m6, v6, n6, b6⟩
      have V6 : Hid (D.val l6 = 21000 + 4 * z) := by show _ = _; rw [v6, GV.out, V5.out]
      clear v6
      have b26 : Below w2.heap.size w2 w6 := ((b3.trans (b4.mono b3.size)).trans (b5.mono (Nat.le_trans b3.size b4.size))).trans (b6.mono (Nat.le_trans (Nat.le_trans b3.size b4.size) b5.size))
      have b06 := b02.trans (b26.mono b02.size)
      have h6 := h2.below b26
      have k6 := k2.below b26 k2.lt
      have g107 := k6.get h.c107
      have nl6 : l6.length ≤ 20 := by omega
      have gn6 := m6.nat
      clear b3 b4 b5 b6 m3 m4 m5 m6 f107 gn V3 V4 V5 GV b26 h2 k2 b02
      go_upto_region 10 with fail
      have hg6 := k6.lt
      have HW : Hid (IntKind.u64.wrap (IntKind.u64.wrap (Dt.length : Int) - (z : Int)) = ((Dt.length - z : Nat) : Int)) := by
        show _ = _
        rw [IntKind.wrap_u64, IntKind.wrap_u64]
        omega
      go_region_held3 (fun w' => w'.cell? ⟨g, 107, none⟩ = some (.slice da Dt.length dc) ∧ Below w6.heap.size w6 w') (first | exact ⟨g107, (Below.refl _ _).drew⟩ | exact keepS hg6 (by assumption) (by assumption))
        (first
          | (go_at_call_of 88 (Value.int IntKind.u64 16); refine (num_any _ 16 (by omega)).mono ?_; rintro e w7 ⟨a7, l7, rfl, m7, v7, n7, b7⟩)
          | (go_at_call 88; rw [HW.out]; refine (num_any _ (Dt.length - z) (by omega)).mono ?_; rintro e w8 ⟨a8, l8, rfl, m8, v8, n8, b8⟩)
          | (go_at_call 25; refine (mul_any _ _ _ _ _ _ _ l7 l8 (m7.nat.rd.below b8) m8.nat.rd (Nat.le_refl _) (Nat.le_refl _) (by omega) (by omega) (by omega)).mono ?_; rintro e w9 ⟨a9, l9, rfl, m9, v9, n9, b9⟩)
          | (go_at_call 24; refine (add_any _ _ _ _ _ _ _ l6 l9 ((((gn6.rd.below ((Below.refl _ _).drew)).below b7).below b8).below b9) m9.nat.rd (Nat.le_refl _) (Nat.le_refl _) (by omega) (by omega)).mono ?_; rintro e w10 ⟨a10, l10, rfl, m10, v10, n10, b10⟩))
      have V10 : Hid (D.val l10 = 21000 + dgp Dt Dt.length) := by
        show _ = _
        have := DZ.out
        rw [v10, V6.out, v9, v7, v8]
        omega
      have n10' : l10.length ≤ 30 := by omega
      have b610 : Below w6.heap.size w6 w10 := (((((Below.refl _ _).drew.trans b7).trans (b8.mono b7.size)).trans (b9.mono (Nat.le_trans b7.size b8.size))).trans (b10.mono (Nat.le_trans (Nat.le_trans b7.size b8.size) b9.size)))
      have b010 := b06.trans (b610.mono b06.size)
      have h10 := h6.below b610
      have k10 := k6.below b610 hg6
      have gn10 := m10.nat
      have hg10 := k10.lt
      have f173 := k10.get h.c173
      clear b7 b8 b9 b10 m7 m8 m9 m10 v7 v8 v9 v10 V6 HW DZ b610 k6 h6 b06 gn6 hg6 g107
      generalize hs0 : 21000 + dgp Dt Dt.length = s0 at *
      have HS0 : Hid (21000 + dgp Dt Dt.length = s0) := hs0
      clear hs0
      go_upto_region 12 with fail
      go_loopw [3, 42] (fun gv iv wr => ∃ (i : Nat) (ga : Option Addr) (l : List Nat), i ≤ K.length ∧ iv = .int .i64 i ∧ gv = .slice ga l.length l.length ∧ IsNat wr ga l ∧ D.val l = s0 + kgp K i ∧ l.length ≤ 40 + i ∧ Below w10.heap.size w10 wr) (fun _ iv _ => K.length - (intOf iv).toNat)
      case atStart => exact ⟨0, a10, l10, Nat.zero_le _, rfl, rfl, gn10, by rw [V10.out]; rfl, by omega, Below.refl _ _⟩
      case round =>
        obtain ⟨i, xa, xl, hi, rfl, rfl, hxn, hxv, hxl, belr⟩ := hrel
        have HXV : Hid (D.val xl = s0 + kgp K i) := hxv
        clear hxv
        by_cases hin : i < K.length
        · obtain ⟨b, off, es, ka, kc, e1, hb1, hes, hrng, hone, h20⟩ := (h10.acc.below belr) i hin
          have hkey := h.keys i
          have HG : Hid (kgp K (i + 1) = kgp K i + (2400 + 1900 * K.getD i 0)) := rfl
          generalize K.getD i 0 = kn at h20 hkey HG
          subst e1
          have hin' : (i : Int) < (K.length : Int) := by omega
          go_upto_region 13 with fail
          apply wp_region_lit
          refine wpList_index_slice rfl 31 _ _ rfl b off K.length ac i 21 rfl rfl hin Safg.underlying31 Safg.sizeOf97 ?_
          refine wpList_load_mid rfl 97 _ rfl b (off + i * 21) rfl es _ hrng Safg.underlying97 rfl (by rw [hes]; exact Safg.size97) ?_
          refine wpList_alloc_agg rfl 97 rfl _ Safg.zero97 ?_
          intro w11 g2 hg2 k11 b11
          refine wpList_store_agg rfl 97 _ _ rfl g2 rfl _ es rfl k11 (by rw [hes]; rfl) Safg.size97 hone ?_
          intro w12 k12 b12
          have f20 := k12.get h20
          have hg12 := k12.lt
          have br12 : Below wr.heap.size wr w12 := b11.trans (b12.below hg2)
          have hx12 := hxn.below br12
          clear k11 b11 b12 hrng
          have HW : Hid (IntKind.u64.wrap (kn : Int) = (kn : Int)) := by
            show _ = _
            rw [IntKind.wrap_u64]
            omega
          go_upto_region 14 with fail
          go_region_held3 (fun w' => w'.cell? ⟨g2, 20, none⟩ = some (.slice ka kn kc) ∧ Below w12.heap.size w12 w') (first | exact ⟨f20, (Below.refl _ _).drew⟩ | exact keepS hg12 (by assumption) (by assumption))
            (first
              | (go_at_call_of 88 (Value.int IntKind.u64 2400); refine (num_any _ 2400 (by omega)).mono ?_; rintro e w13 ⟨a13, l13, rfl, m13, v13, n13, b13⟩)
              | (go_at_call_of 88 (Value.int IntKind.u64 1900); refine (num_any _ 1900 (by omega)).mono ?_; rintro e w14 ⟨a14, l14, rfl, m14, v14, n14, b14⟩)
              | (go_at_call 88; rw [HW.out]; refine (num_any _ kn (by omega)).mono ?_; rintro e w15 ⟨a15, l15, rfl, m15, v15, n15, b15⟩)
              | (go_at_call 25; refine (mul_any _ _ _ _ _ _ _ l14 l15 (m14.nat.rd.below b15) m15.nat.rd (Nat.le_refl _) (Nat.le_refl _) (by omega) (by omega) (by omega)).mono ?_; rintro e w16 ⟨a16, l16, rfl, m16, v16, n16, b16⟩)
              | (go_at_call_of 24 (Value.slice a13 l13.length l13.length); refine (add_any _ _ _ _ _ _ _ l13 l16 (((m13.nat.rd.below b14).below b15).below b16) m16.nat.rd (Nat.le_refl _) (Nat.le_refl _) (by omega) (by omega)).mono ?_; rintro e w17 ⟨a17, l17, rfl, m17, v17, n17, b17⟩)
              | (go_at_call 24; refine (add_any _ _ _ _ _ _ _ xl l17 ((((((hx12.rd.below ((Below.refl _ _).drew)).below b13).below b14).below b15).below b16).below b17) m17.nat.rd (Nat.le_refl _) (Nat.le_refl _) (by omega) (by omega)).mono ?_; rintro e w18 ⟨a18, l18, rfl, m18, v18, n18, b18⟩))
          have V18 : Hid (D.val l18 = s0 + kgp K (i + 1)) := by
            show _ = _
            rw [v18, HXV.out, v17, v13, v16, v14, v15, HG.out]
            omega
          have s13 := b13.size
          have s14 := b14.size
          have s15 := b15.size
          have s16 := b16.size
          have s17 := b17.size
          have br18 : Below wr.heap.size wr w18 := by
            have t12 := br12.size
            have t13 : w12.heap.size ≤ w13.heap.size := b13.size
            exact (((((br12.trans ((Below.refl _ _).drew.trans (b13.mono t12))).trans (b14.mono (by omega))).trans (b15.mono (by omega))).trans (b16.mono (by omega))).trans (b17.mono (by omega))).trans (b18.mono (by omega))
          clear v13 v14 v15 v16 v17 v18
          go_wp2
          go_roundw
          case rel => exact ⟨i + 1, a18, l18, by omega, by go_num, rfl, m18.nat, V18.out, by omega, belr.trans (br18.mono belr.size)⟩
          case measure => simp [intOf]; omega
        · have hiK : i = K.length := by omega
          subst hiK
          have kr := k10.below belr hg10
          have f40 := kr.get h.c40
          have fr107 := kr.get h.c107
          have hgr := kr.lt
          have HG : Hid (∀ x, x = (if cr then 32000 + 2 * ((Dt.length + 31) / 32) else 0) → s0 + kgp K K.length + x = gas cr Dt K) := fun x hx => by unfold gas; rw [hx, ← HS0.out]
          have b0r := b010.trans (belr.mono b010.size)
          clear h10 k10 V10 gn10 belr f173 hg10
          cases cr with
          | false =>
            go_wp2
            go_ret
            exact ⟨xa, xl, rfl, hxn, by rw [HXV.out, ← HG.out 0 rfl]; rfl, by omega, b0r⟩
          | true =>
            go_wp2_with fail
            refine (num_any _ 32000 (by omega)).mono ?_
            rintro e w11 ⟨a11, l11, rfl, m11, v11, n11, b11⟩
            have V11 : Hid (D.val l11 = 32000) := v11
            clear v11
            go_wp2_with fail
            refine (add_any _ _ _ _ _ _ _ xl l11 (hxn.rd.below b11) m11.nat.rd (Nat.le_refl _) (Nat.le_refl _) (by omega) (by omega)).mono ?_
            rintro e w12 ⟨a12, l12, rfl, m12, v12, n12, b12⟩
            have V12 : Hid (D.val l12 = s0 + kgp K K.length + 32000) := by show _ = _; rw [v12, HXV.out, V11.out]
            clear v12
            have br12 : Below wr.heap.size wr w12 := b11.trans (b12.mono b11.size)
            have b012 := b0r.trans (br12.mono b0r.size)
            have k12 := kr.below br12 hgr
            have g107 := k12.get h.c107
            have hg12 := k12.lt
            have gn12 := m12.nat
            have n12' : l12.length ≤ 70 := by omega
            clear b11 b12 m11 m12 b0r hxn br12 fr107 f40
            have HW : Hid (IntKind.u64.wrap (Dt.length : Int) = (Dt.length : Int)) := by
              show _ = _
              rw [IntKind.wrap_u64]
              omega
            go_upto_region 18 with fail
            go_region_held3 (fun w' => w'.cell? ⟨g, 107, none⟩ = some (.slice da Dt.length dc) ∧ Below w12.heap.size w12 w') (first | exact ⟨g107, (Below.refl _ _).drew⟩ | exact keepS hg12 (by assumption) (by assumption))
              (first
                | (go_at_call_of 88 (Value.int IntKind.u64 2); refine (num_any _ 2 (by omega)).mono ?_; rintro e w13 ⟨a13, l13, rfl, m13, v13, n13, b13⟩)
                | (go_at_call 88; rw [HW.out]; refine (num_any _ Dt.length (by omega)).mono ?_; rintro e w14 ⟨a14, l14, rfl, m14, v14, n14, b14⟩)
                | (go_at_call 92; refine (words_any _ _ l14 m14.nat.rd (by omega)).mono ?_; rintro e w15 ⟨a15, l15, rfl, m15, v15, n15, b15⟩)
                | (go_at_call 25; refine (mul_any _ _ _ _ _ _ _ l13 l15 ((m13.nat.rd.below b14).below b15) m15.rd (Nat.le_refl _) (Nat.le_refl _) (by omega) (by omega) (by omega)).mono ?_; rintro e w16 ⟨a16, l16, rfl, m16, v16, n16, b16⟩)
                | (go_at_call 24; refine (add_any _ _ _ _ _ _ _ l12 l16 (((((gn12.rd.below ((Below.refl _ _).drew)).below b13).below b14).below b15).below b16) m16.nat.rd (Nat.le_refl _) (Nat.le_refl _) (by omega) (by omega)).mono ?_; rintro e w17 ⟨a17, l17, rfl, m17, v17, n17, b17⟩))
            have V17 : Hid (D.val l17 = gas true Dt K) := by
              show _ = _
              rw [v17, V12.out, v16, v13, v15, v14, ← HG.out _ rfl]
              simp
              omega
            have s14 := b14.size
            have s15 := b15.size
            have s16 := b16.size
            have b1217 : Below w12.heap.size w12 w17 := by
              have t13 : w12.heap.size ≤ w13.heap.size := b13.size
              have c13 : Below w12.heap.size w12 w13 := (Below.refl _ _).drew.trans b13
              exact (((c13.trans (b14.mono (by omega))).trans (b15.mono (by omega))).trans (b16.mono (by omega))).trans (b17.mono (by omega))
            clear v13 v14 v15 v16 v17
            go_wp2
            go_ret
            exact ⟨a17, l17, rfl, m17.nat, V17.out, by omega, b012.trans (b1217.mono b012.size)⟩
end Go.Proofs.Ygcsaf
