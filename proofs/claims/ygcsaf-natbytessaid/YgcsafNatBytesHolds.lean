import Derived.Test.YgcsafNormal
import Derived.Test.YgcsafBE32
namespace Go.Proofs.Ygcsaf
open Go.RowKit
set_option linter.unusedVariables false
set_option linter.unusedSimpArgs false

namespace NB
def Want (S W : List Nat) (n k : Nat) : Prop := ∀ p, p < 32 → W.getD (31 - p) 0 = if n - k ≤ p ∧ p < n then S.getD p 0 else 0
def Small (S : List Nat) (n k : Nat) (sm : Bool) : Prop := sm = true ↔ ∀ p, n - k ≤ p → p < n → 32 ≤ p → S.getD p 0 = 0
theorem want_set {S W : List Nat} {n k : Nat} (hW : W.length = 32) (hk : k < n) (h : Want S W n k) (hp : n - 1 - k < 32) : Want S (W.set (31 - (n - 1 - k)) (S.getD (n - 1 - k) 0)) n (k + 1) := by
  intro p hp'
  rw [D.getD_set (by omega)]
  by_cases e : p = n - 1 - k
  · subst e; rw [if_pos rfl, if_pos (by omega)]
  · rw [if_neg (by omega), h p hp']
    by_cases e2 : n - k ≤ p ∧ p < n
    · rw [if_pos e2, if_pos (by omega)]
    · rw [if_neg e2, if_neg (by omega)]
theorem want_keep {S W : List Nat} {n k : Nat} (hk : k < n) (h : Want S W n k) (hp : ¬ n - 1 - k < 32) : Want S W n (k + 1) := by
  intro p hp'
  rw [h p hp']
  by_cases e2 : n - k ≤ p ∧ p < n
  · rw [if_pos e2, if_pos (by omega)]
  · rw [if_neg e2, if_neg (by omega)]
theorem small_lo {S : List Nat} {n k : Nat} {sm : Bool} (hk : k < n) (h : Small S n k sm) (hp : n - 1 - k < 32) : Small S n (k + 1) sm := by
  unfold Small at *
  rw [h]
  constructor
  · intro g p h1 h2 h3; exact g p (by omega) h2 h3
  · intro g p h1 h2 h3; exact g p (by omega) h2 h3
theorem small_zero {S : List Nat} {n k : Nat} {sm : Bool} (hk : k < n) (h : Small S n k sm) (hx : S.getD (n - 1 - k) 0 = 0) : Small S n (k + 1) sm := by
  unfold Small at *
  rw [h]
  constructor
  · intro g p h1 h2 h3
    by_cases e : p = n - 1 - k
    · rw [e]; exact hx
    · exact g p (by omega) h2 h3
  · intro g p h1 h2 h3; exact g p (by omega) h2 h3
theorem small_no {S : List Nat} {n k : Nat} (hk : k < n) (hp : ¬ n - 1 - k < 32) (hx : S.getD (n - 1 - k) 0 ≠ 0) : Small S n (k + 1) false := by
  unfold Small
  constructor
  · intro h; cases h
  · intro g; exact absurd (g (n - 1 - k) (by omega) (by omega) (by omega)) hx
end NB

set_option maxHeartbeats 1000000 in
theorem natBytesHolds_true (w : World) (ra na : Option Addr) (rlen rcap : Nat) (R B : List Nat) (ok : Bool) (hr : Rd w ra rlen R) (hrc : rlen ≤ rcap) (hrm : rcap ≤ 281474976710656)
    (N : List Nat) (hN : Hid (N = D.trimL R.reverse)) (hn : IsNat w na N) (hB : B.length = 32) (hdB : D.Dig B)
    (hok : Hid ((32 < N.length ∧ ok = false ∧ B = List.replicate 32 0) ∨ (N.length ≤ 32 ∧ ok = true ∧ ∀ j, j < 32 → B.getD (31 - j) 0 = N.getD j 0))) :
    Calls Safg.prog 42 #[.slice ra rlen rcap, .slice na N.length N.length, arrV B, .bool ok] w fun e w' => e = .returned (.bool true) ∧ Below w.heap.size w w' := by
  have hl := hr.length
  have hNl : N.length ≤ rlen := by rw [hN.out]; have := D.trimL_len R.reverse; simp at this; omega
  go_enter Safg.func42, Safg.ntmps42
  go_upto_region 1 with (refine wpList_box_arr rfl 28 _ rfl B rfl ?_; intro w1 g1 hg1 o1 b1)
  have hn1 : IsNat w1 na N := ⟨hn.rd.below b1, hn.nm, hn.nil⟩
  have hr1 := hr.below b1
  go_upto_region 3 with (go_at_call 87; refine (normal_true _ _ _ N hn1 (Nat.le_refl _) (by omega)).mono ?_; rintro e w' ⟨rfl, hw⟩; subst hw)
  go_upto_region 4 with (refine wpList_alloc_arr rfl 28 rfl 32 Safg.zero28 ?_; intro w2 g2 hg2 o2 b2)
  have b12 : Below w.heap.size w w2 := b1.trans (b2.mono b1.size)
  have hs1 := b1.size
  have hs2 := b2.size
  have o1' := o1.below b2 o1.lt
  have hne : g1 ≠ g2 := by have := o1.lt; omega
  have hlt1 := o1.lt
  clear o1 b1 b2 hn1 hr1
  generalize hS : R.reverse = S at *
  have hSl : S.length = rlen := by rw [← hS]; simpa using hl
  have HS : Hid (∀ k, k < rlen → R.getD k 0 = S.getD (rlen - 1 - k) 0) := by
    intro k hk
    rw [← hS, D.getD_reverse (by omega), hl]
    congr 1; omega
  clear hS
  go_wp2
  go_loopw [10, 19] (fun s i wr => ∃ (k : Nat) (W : List Nat) (sm : Bool), k ≤ rlen ∧ i = .int .i64 k ∧ s = .bool sm ∧ Own wr g2 W ∧ Only g2 w2 wr ∧ W.length = 32 ∧ D.Dig W ∧
      NB.Want S W rlen k ∧ NB.Small S rlen k sm) (fun _ i _ => rlen - (intOf i).toNat)
  case atStart => 
    refine ⟨0, _, true, Nat.zero_le _, rfl, rfl, o2, Only.refl _ _, by simp, D.Dig.replicate _, fun p hp => ?_, ?_⟩
    · rw [D.getD_replicate, if_neg (by omega)]
    · unfold NB.Small; simp; omega
  case round =>
    obtain ⟨k, W, sm, hk, rfl, rfl, ownr, onlyr, hW, hdW, hj, hsm⟩ := hrel
    by_cases hlt : k < rlen
    · obtain ⟨b, off, rfl, hb, hcell⟩ := hr.cell k hlt
      have hbg : b ≠ g2 := by omega
      have hcell2 : wr.cell? ⟨b, off + k, none⟩ = some (.int .u8 ((R.getD k 0 : Nat) : Int)) := by
        rw [onlyr.cell (p := ⟨b, off + k, none⟩) hbg, b12.cell (p := ⟨b, off + k, none⟩) hb]; exact hcell
      have hdg := hr.dig.getD k
      clear hcell
      rw [HS.out k hlt] at hcell2 hdg
      have hxN : Hid (N.getD (rlen - 1 - k) 0 = S.getD (rlen - 1 - k) 0) := by rw [hN.out]; exact D.trimL_getD
      have hx0 : ¬ rlen - 1 - k < N.length → S.getD (rlen - 1 - k) 0 = 0 := fun hh => by rw [← hxN.out]; simp [List.getElem?_eq_none (show N.length ≤ rlen - 1 - k by omega)]
      have hNc : rlen - 1 - k < N.length → ∃ nb noff, na = some ⟨nb, noff, none⟩ ∧ nb ≠ g2 ∧ wr.cell? ⟨nb, noff + (rlen - 1 - k), none⟩ = some (.int .u8 ((S.getD (rlen - 1 - k) 0 : Nat) : Int)) := by
        intro hh
        obtain ⟨nb, noff, e, hnb, hc⟩ := hn.rd.cell _ hh
        refine ⟨nb, noff, e, by omega, ?_⟩
        rw [onlyr.cell (p := ⟨nb, noff + (rlen - 1 - k), none⟩) (show nb ≠ g2 by omega), b12.cell (p := ⟨nb, noff + (rlen - 1 - k), none⟩) hnb, hc, hxN.out]
      have HW1 : Hid (rlen - 1 - k < 32 → NB.Want S (W.set (31 - (rlen - 1 - k)) (S.getD (rlen - 1 - k) 0)) rlen (k + 1) ∧ NB.Small S rlen (k + 1) sm) := fun hh => ⟨NB.want_set hW hlt hj hh, NB.small_lo hlt hsm hh⟩
      have HW2 : Hid (¬ rlen - 1 - k < 32 → S.getD (rlen - 1 - k) 0 = 0 → NB.Want S W rlen (k + 1) ∧ NB.Small S rlen (k + 1) sm) := fun hh hx => ⟨NB.want_keep hlt hj hh, NB.small_zero hlt hsm hx⟩
      have HW3 : Hid (¬ rlen - 1 - k < 32 → S.getD (rlen - 1 - k) 0 ≠ 0 → NB.Want S W rlen (k + 1) ∧ NB.Small S rlen (k + 1) false) := fun hh hx => ⟨NB.want_keep hlt hj hh, NB.small_no hlt hh hx⟩
      have hset : rlen - 1 - k < 32 → Own (wr.setCell ⟨g2, 31 - (rlen - 1 - k), none⟩ (.int .u8 ((S.getD (rlen - 1 - k) 0 : Nat) : Int))) g2 (W.set (31 - (rlen - 1 - k)) (S.getD (rlen - 1 - k) 0)) := fun hh => ownr.set (by omega) _
      clear hj hsm hxN
      generalize S.getD (rlen - 1 - k) 0 = x at *
      by_cases c2 : rlen - 1 - k < N.length
      · obtain ⟨nb, noff, rfl, hnbg, hcN⟩ := hNc c2
        clear hNc hx0
        by_cases c1 : rlen - 1 - k < 32
        · have hs := hset c1
          have hcw := ownr.cell (31 - (rlen - 1 - k)) (by omega)
          have hfr := ownr.free (31 - (rlen - 1 - k))
          have HW := HW1.out c1
          have hcN2 : (wr.setCell ⟨g2, 31 - (rlen - 1 - k), none⟩ (.int .u8 ((x : Nat) : Int))).cell? ⟨nb, noff + (rlen - 1 - k), none⟩ = some (.int .u8 ((x : Nat) : Int)) := by rw [cell_far hnbg]; exact hcN
          clear HW1 HW2 HW3 hset
          go_wp2
          go_roundw
          case rel => exact ⟨k + 1, _, sm, by omega, by go_num, rfl, hs, onlyr.setCell _ _, by simpa using hW, hdW.set _ hdg, HW.1, HW.2⟩
          case measure => simp [intOf]; omega
        · by_cases c3 : x = 0
          · have HW := HW2.out c1 c3
            subst c3
            clear HW1 HW2 HW3 hset
            go_wp2
            go_roundw
            case rel => exact ⟨k + 1, _, sm, by omega, by go_num, rfl, ownr, onlyr, hW, hdW, HW.1, HW.2⟩
            case measure => simp [intOf]; omega
          · have HW := HW3.out c1 c3
            have c3' : (((x : Nat) : Int) == 0) = false := by simpa using c3
            clear HW1 HW2 HW3 hset
            go_wp2
            go_roundw
            case rel => exact ⟨k + 1, _, false, by omega, by go_num, rfl, ownr, onlyr, hW, hdW, HW.1, HW.2⟩
            case measure => simp [intOf]; omega
      · have hx := hx0 c2
        subst hx
        clear hNc hx0
        by_cases c1 : rlen - 1 - k < 32
        · have hs := hset c1
          have hcw := ownr.cell (31 - (rlen - 1 - k)) (by omega)
          have hfr := ownr.free (31 - (rlen - 1 - k))
          have HW := HW1.out c1
          clear HW1 HW2 HW3 hset
          go_wp2
          go_roundw
          case rel => exact ⟨k + 1, _, sm, by omega, by go_num, rfl, hs, onlyr.setCell _ _, by simpa using hW, hdW.set _ hdg, HW.1, HW.2⟩
          case measure => simp [intOf]; omega
        · have HW := HW2.out c1 rfl
          clear HW1 HW2 HW3 hset
          go_wp2
          go_roundw
          case rel => exact ⟨k + 1, _, sm, by omega, by go_num, rfl, ownr, onlyr, hW, hdW, HW.1, HW.2⟩
          case measure => simp [intOf]; omega
    · have hkr : k = rlen := by omega
      subst hkr
      have hNS : ∀ p, N.getD p 0 = S.getD p 0 := fun p => by rw [hN.out]; exact D.trimL_getD
      have hWS : ∀ p, p < 32 → W.getD (31 - p) 0 = N.getD p 0 := fun p hp => by
        rw [hj p hp, hNS]
        split
        · rfl
        · simp [List.getElem?_eq_none (show S.length ≤ p by omega)]
      have hsmN : sm = decide (N.length ≤ 32) := by
        rw [Bool.eq_iff_iff, decide_eq_true_eq, show (sm = true ↔ _) from hsm]
        constructor
        · intro g
          exact hn.nm.len_le fun p h1 h2 => by rw [hNS]; exact g p (by omega) (by omega) h1
        · intro g p h1 h2 h3
          rw [← hNS]; simp [List.getElem?_eq_none (show N.length ≤ p by omega)]
      have HSM : Hid (sm = decide (N.length ≤ 32)) := hsmN
      have HWS : Hid (∀ p, p < 32 → W.getD (31 - p) 0 = N.getD p 0) := hWS
      clear hsmN hWS hNS hj hsm hN
      have ow1 := onlyr.own o1' hne
      rcases hok.out with ⟨h1, rfl, h3⟩ | ⟨h1, rfl, h3⟩
      · have hs0 : sm = false := by rw [HSM.out]; simpa using h1
        subst hs0
        have HB : Hid (B = List.replicate 32 0) := h3
        clear h3 hok
        go_upto_region 19 with fail
        apply wp_region_lit
        refine wpList_load_arr rfl 28 _ rfl g1 rfl _ ow1 32 5 Safg.underlying28 (by rw [hB]; exact Safg.size28) ?_
        refine wpList_build0_arr rfl 28 rfl 32 5 Safg.underlying28 (by kernel_rfl) Safg.zero28 ?_
        refine wpList_eql_arr rfl 28 28 _ _ rfl 32 Safg.underlying28 Safg.eqGuardType28 B (List.replicate 32 0) rfl rfl hdB (D.Dig.replicate _) hB (by simp) ?_
        have hd : decide (B = List.replicate 32 0) = true := decide_eq_true HB.out
        rw [hd]
        clear hd
        go_wp2
        go_ret
        exact ⟨rfl, b12.trans (onlyr.below (by omega))⟩
      · have hs0 : sm = true := by rw [HSM.out]; simpa using h1
        subst hs0
        have HB : Hid (B = W) := by
          apply D.ext_getD (by rw [hB, hW])
          intro j hj
          have e1 := h3 (31 - j) (by omega)
          have e2 := HWS.out (31 - j) (by omega)
          rw [show 31 - (31 - j) = j by omega] at e1 e2
          rw [e1, e2]
        clear h3 hok
        go_upto_region 20 with fail
        apply wp_region_lit
        refine wpList_load_arr rfl 28 _ rfl g1 rfl _ ow1 32 5 Safg.underlying28 (by rw [hB]; exact Safg.size28) ?_
        refine wpList_load_arr rfl 28 _ rfl g2 rfl _ ownr 32 5 Safg.underlying28 (by rw [hW]; exact Safg.size28) ?_
        refine wpList_eql_arr rfl 28 28 _ _ rfl 32 Safg.underlying28 Safg.eqGuardType28 B W rfl rfl hdB hdW hB hW ?_
        have hd : decide (B = W) = true := decide_eq_true HB.out
        rw [hd]
        clear hd
        go_wp2
        go_ret
        exact ⟨rfl, b12.trans (onlyr.below (by omega))⟩
end Go.Proofs.Ygcsaf
