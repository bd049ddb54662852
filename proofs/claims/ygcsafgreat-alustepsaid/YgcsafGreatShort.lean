/-
  'u256.short' (396), 'u256.Word.Limbs' (187).
-/
import Derived.Test.YgcsafGreatShift
namespace Go.Proofs.YgcsafGreat
open Go.RowKit
set_option linter.unusedVariables false
set_option linter.unusedSimpArgs false

theorem short_step {HL HK l y q r r' : Nat} (I : HL = HK * y + r) (E : q * y + r' = r * b64 + l) : l + b64 * HL = (q + b64 * HK) * y + r' := by
  rw [I, Nat.add_mul, Nat.mul_add, Nat.mul_assoc, Nat.mul_comm b64 r]
  omega

set_option maxRecDepth 100000 in
set_option maxHeartbeats 2000000 in
theorem short_any (w : World) (g n y : Nat) (L : List Nat) (hU : OwnU w g L) (lU : Lim L) (hL : L.length = 8) (hn : n ≤ 8) (hy : 0 < y) (hy2 : y < 18446744073709551616) :
    Calls Safg.prog 396 #[.pointer (some ⟨g, 0, none⟩), .int .u8 (n : Int), .int .u64 (y : Int)] w fun e w' => ∃ (L' : List Nat) (r : Nat), e = .returned (.int .u64 (r : Int)) ∧ OwnU w' g L' ∧ Only g w w' ∧ Lim L' ∧ Above L L' 0 n ∧ r < y ∧ wv L 0 n = wv L' 0 n * y + r := by
  go_enter Safg.func396, Safg.ntmps396
  go_upto_region 3 with fail
  go_loopw [7, 8] (fun cr i wr => ∃ (k r : Nat) (K : List Nat), k ≤ n ∧ i = .int .u8 k ∧ cr = .int .u64 (r : Int) ∧ OwnU wr g K ∧ Only g w wr ∧ Lim K ∧ Above L K k n ∧ r < y ∧ wv L k (n - k) = wv K k (n - k) * y + r) (fun _ i _ => (intOf i).toNat)
  case atStart => exact ⟨n, 0, L, Nat.le_refl _, rfl, rfl, hU, Only.refl _ _, lU, ⟨rfl, fun _ _ => rfl⟩, hy, by simp [wv]⟩
  case round =>
    obtain ⟨k, r, K, hk, rfl, rfl, own, only, lK, hw, hc, I⟩ := hrel
    have HI : Hid (wv L k (n - k) = wv K k (n - k) * y + r) := I
    have HW : Hid (Above L K k n) := hw
    have hLl := hw.1
    clear I hw
    by_cases hk0 : k = 0
    · subst hk0
      have HF : Hid (wv L 0 n = wv K 0 n * y + r) := HI.out
      go_wp2
      go_ret
      exact ⟨K, r, rfl, own, only, lK, HW.out, hc, HF.out⟩
    · obtain ⟨k, rfl⟩ : ∃ j, k = j + 1 := ⟨k - 1, by omega⟩
      have c2 := own.cell k (by omega)
      rw [HW.out.2 k (by omega)] at c2
      have l2 := lU.getD k
      have fr := own.free k
      have HS : Hid (∀ d r', d * y + r' = r * b64 + L.getD k 0 → wv L k (n - k) = wv (K.set k d) k (n - k) * y + r') := by
        intro d r' e
        rw [wv_at L (by omega), wv_at (K.set k d) (by omega), getD_setU (by omega), if_pos rfl]
        rw [wv_keep (K := K.set k d) (L := K) (fun j h1 h2 => by rw [getD_setU (by omega), if_neg (by omega)])]
        exact short_step HI.out e
      have HW2 : Hid (∀ d, Above L (K.set k d) k n) := fun d => HW.out.set (by omega) (by omega) d
      generalize L.getD k 0 = l at *
      have hki : ((k + 1 : Nat) : Int) - 1 = (k : Int) := by omega
      have hki2 : (k : Int) + 1 - 1 = (k : Int) := by omega
      have t0 : decide ((0 : Int) < (k : Int) + 1) = true := decide_eq_true (by omega)
      go_upto_region 6 with (go_at_call 325; refine (Div64_rel _ r l y hc hy2 l2).mono ?_; rintro e w1 ⟨q, r', rfl, hq, hr', E, s1⟩)
      have fr1 : w1.frozen? ⟨g, k, none⟩ = false := by rw [s1.frozen]; exact fr
      have own1 := own.same s1
      have only1 := only.trans (s1.only g)
      have c3 := own1.cell k (by omega)
      go_wp2
      go_roundw
      case rel =>
        exact ⟨k, r', K.set k q, by omega, by go_num, rfl, own1.set (by omega) q, only1.setCell _ _, lK.set _ hq, HW2.out q, hr', HS.out q _ E.out⟩
      case measure => simp [intOf]

/-- How many limbs a row has. -/
structure IsLimbs (L : List Nat) (n : Nat) : Prop where
  le : n ≤ L.length
  zero : ∀ j, n ≤ j → L.getD j 0 = 0
  top : 0 < n → L.getD (n - 1) 0 ≠ 0
theorem IsLimbs.unique {L : List Nat} {n m : Nat} (h : IsLimbs L n) (k : IsLimbs L m) : n = m := by
  rcases Nat.lt_trichotomy n m with h1 | h1 | h1
  · exact absurd (h.zero (m - 1) (by omega)) (k.top (by omega))
  · exact h1
  · exact absurd (k.zero (n - 1) (by omega)) (h.top (by omega))

set_option maxRecDepth 100000 in
set_option maxHeartbeats 2000000 in
theorem limbs_any (w : World) (a : Wd4) (ha : a.Ok) :
    Calls Safg.prog 187 #[a.v] w fun e w' => ∃ n : Nat, n ≤ 4 ∧ IsLimbs [a.x0, a.x1, a.x2, a.x3] n ∧ e = .returned (.int .u8 (n : Int)) ∧ Below w.heap.size w w' := by
  obtain ⟨L, HL⟩ : ∃ L, Hid ([a.x0, a.x1, a.x2, a.x3] = L) := ⟨_, rfl⟩
  have hl : L.length = 4 := by rw [← HL.out]; rfl
  rw [HL.out]
  go_enter Safg.func187, Safg.ntmps187
  go_upto_region 2 with (refine wpList_box_agg rfl 65 (.tmp 0) rfl a.cells rfl ?_; intro w1 g2 hg2 k2 c2)
  have own : OwnU w1 g2 L := by rw [← HL.out]; exact Blk.ownU k2
  go_loop [3] (fun i => ∃ k : Nat, i = .int .u8 k ∧ k ≤ 4 ∧ ∀ j, k ≤ j → L.getD j 0 = 0) (fun i => (intOf i).toNat)
  case atStart => exact ⟨4, rfl, Nat.le_refl _, fun j hj => by rw [List.getD_eq_getElem?_getD, List.getElem?_eq_none (by omega)]; rfl⟩
  case round =>
    obtain ⟨k, rfl, hk, hz⟩ := hrel
    have HZ : Hid (∀ j, k ≤ j → L.getD j 0 = 0) := hz
    clear hz
    by_cases hk0 : k = 0
    · subst hk0
      go_wp2
      go_ret
      exact ⟨0, by omega, ⟨by omega, HZ.out, fun h => absurd h (by omega)⟩, rfl, c2⟩
    · obtain ⟨k, rfl⟩ : ∃ j, k = j + 1 := ⟨k - 1, by omega⟩
      have c3 := own.cell k (by omega)
      have hki : ((k + 1 : Nat) : Int) - 1 = (k : Int) := by omega
      have hki2 : (k : Int) + 1 - 1 = (k : Int) := by omega
      have t0 : decide ((0 : Int) < (k : Int) + 1) = true := decide_eq_true (by omega)
      obtain ⟨x, HX⟩ : ∃ x, Hid (L.getD k 0 = x) := ⟨_, rfl⟩
      rw [HX.out] at c3
      by_cases hx : x = 0
      · have t1 : ((x : Int) == 0) = true := by simp [hx]
        go_wp2
        go_round
        case rel => exact ⟨k, by go_num, by omega, fun j hj => by
          by_cases e : j = k
          · rw [e, HX.out, hx]
          · exact HZ.out j (by omega)⟩
        case measure => simp [intOf]
      · have t1 : ((x : Int) == 0) = false := by simp [hx]
        go_wp2
        go_ret
        exact ⟨k + 1, by omega, ⟨by omega, HZ.out, fun _ => by rw [Nat.add_sub_cancel, HX.out]; exact hx⟩, rfl, c2⟩
end Go.Proofs.YgcsafGreat
