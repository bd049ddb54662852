import Derived.Test.YgcsafGreatNorm
namespace Go.Proofs.YgcsafGreat
open Go.RowKit
set_option linter.unusedVariables false
set_option linter.unusedSimpArgs false

theorem Safg.zero347 : (Safg.prog.info? 347).map (·.zero) = some (some (arrV (List.replicate 8 0))) := by kernel_rfl
theorem Safg.size347 : (Safg.prog.info? 347).map (·.size) = some 8 := by kernel_rfl

set_option maxHeartbeats 400000 in
theorem fromU64_any (w : World) (x : Nat) (hx : x < 18446744073709551616) :
    Calls Safg.prog 268 #[.int .u64 (x : Int)] w fun e w' => ∃ a' l, e = .returned (.slice a' l.length l.length) ∧ Made w.heap.size w' a' l ∧ D.val l = x ∧ l.length ≤ 8 ∧ Below w.heap.size w w' := by
  go_enter Safg.func268, Safg.ntmps268
  go_upto_region 2 with (refine wpList_alloc_arr rfl 347 rfl 8 Safg.zero347 ?_; intro w1 g hg o1 b1)
  go_wp2
  go_loopw [0, 5] (fun y i wr => ∃ (k z : Nat) (L : List Nat), k ≤ 8 ∧ i = .int .i64 k ∧ y = .int .u64 (z : Int) ∧ z = x / 256 ^ k ∧ Own wr g L ∧ Only g w1 wr ∧ L.length = 8 ∧ D.Dig L ∧ ∀ j, j < k → L.getD j 0 = x / 256 ^ j % 256) (fun _ i _ => 8 - (intOf i).toNat)
  case atStart => exact ⟨0, x, _, by omega, rfl, rfl, by simp, o1, Only.refl _ _, by simp, D.Dig.replicate _, fun j hj => absurd hj (by omega)⟩
  case round =>
    obtain ⟨k, z, L, hk, rfl, rfl, hz, ownr, onlyr, hL, hdL, hj⟩ := hrel
    have HZ : Hid (z = x / 256 ^ k) := hz
    have HJ : Hid (∀ j, j < k → L.getD j 0 = x / 256 ^ j % 256) := hj
    have hzx : z < 18446744073709551616 := by rw [hz]; exact Nat.lt_of_le_of_lt (Nat.div_le_self _ _) hx
    clear hz hj
    by_cases hlt : k < 8
    · have hcell := ownr.cell k (by omega)
      have hfr := ownr.free k
      have hset := ownr.setI (k := k) (by omega) (z % 256) (i := (z : Int) % 256) (by omega)
      go_wp2
      go_roundw
      case rel =>
        refine ⟨k + 1, z / 256, _, by omega, by go_num, by go_num, ?_, hset, onlyr.setCell _ _, by simpa using hL, hdL.set _ (by omega), fun j hj => ?_⟩
        · rw [HZ.out, Nat.pow_succ, Nat.div_div_eq_div_mul]
        · rw [D.getD_set (by omega)]
          by_cases e : j = k
          · subst e; rw [if_pos rfl, HZ.out]
          · rw [if_neg e]; exact HJ.out j (by omega)
      case measure => simp [intOf]; omega
    · have h8 : k = 8 := by omega
      subst h8
      have hv : Hid (D.val (D.trimL L) = x) := by show D.val (D.trimL L) = x; rw [D.trimL_val]; exact D.val_of_u64 hx hL HJ.out
      have hrd := ownr.rd hdL
      have htl := D.trimL_len L
      have b2 : Below w.heap.size w wr := b1.trans (onlyr.below hg)
      rw [hL] at hrd
      go_wp2_with (go_at_call 256; refine (norm_any _ _ _ _ L hrd (Nat.le_refl _) (by omega)).mono ?_; rintro e w2 ⟨a', rfl, hm, b3⟩)
      go_ret
      exact ⟨a', _, rfl, hm.mono b2.size, hv.out, by omega, b2.trans (b3.mono b2.size)⟩

theorem or_byte {y x : Nat} (hy : y < 72057594037927936) (hx : x < 256) : bits .or .u64 ((y : Int) * 256) (x : Int) = ((x + 256 * y : Nat) : Int) := by
  have h := u64_or ((y : Int) * 256) (x : Int) (by omega) (by omega) (by omega) (by omega)
  rw [h]
  congr 1
  have e : ((y : Int) * 256).toNat = 2 ^ 8 * y := by omega
  rw [e, Int.toNat_natCast, ← Nat.two_pow_add_eq_or_of_lt (i := 8) (by omega)]
  omega

set_option maxHeartbeats 400000 in
theorem u64_any (w : World) (a : Option Addr) (len cap : Nat) (l : List Nat) (h : Rd w a len l) (hc : len ≤ cap) (hm : cap ≤ 281474976710656) :
    Calls Safg.prog 262 #[.slice a len cap] w fun e w' => w' = w ∧ ((8 < (D.trimL l).length ∧ e = .returned (.tuple #[.int .u64 0, .bool false])) ∨ ((D.trimL l).length ≤ 8 ∧ e = .returned (.tuple #[.int .u64 ((D.val l : Nat) : Int), .bool true]))) := by
  have hl := h.length
  have htl := D.trimL_len l
  have hrd := h.trim
  have HV : Hid (D.val (D.trimL l) = D.val l) := D.trimL_val l
  go_enter Safg.func262, Safg.ntmps262
  go_upto_region 2 with (go_at_call 96; refine (trim_any _ _ _ _ l h hc (by omega)).mono ?_; rintro e w' ⟨rfl, hw⟩; subst hw)
  generalize hT : D.trimL l = T at *
  have HT : Hid (D.trimL l = T) := hT
  clear hT
  by_cases h8 : 8 < T.length
  · go_wp2
    go_ret2
    exact ⟨rfl, .inl ⟨by rw [HT.out]; exact h8, rfl⟩⟩
  · go_wp2
    go_loop [4, 5] (fun y i => ∃ (k : Nat), k ≤ T.length ∧ i = .int .i64 k ∧ y = .int .u64 ((D.val (T.drop k) : Nat) : Int)) (fun _ i => (intOf i).toNat)
    case atStart => exact ⟨T.length, Nat.le_refl _, rfl, by simp [D.val]⟩
    case round =>
      obtain ⟨k, hk, rfl, rfl⟩ := hrel
      by_cases h0 : k = 0
      · subst h0
        go_wp2
        go_ret2
        exact ⟨rfl, .inr ⟨by rw [HT.out]; omega, by rw [← HV.out]; rfl⟩⟩
      · obtain ⟨m, rfl⟩ : ∃ m, k = m + 1 := ⟨k - 1, by omega⟩
        obtain ⟨b, off, rfl, hb, hcell⟩ := hrd.cell m (by omega)
        have hvd : Hid (D.val (T.drop m) = T.getD m 0 + 256 * D.val (T.drop (m + 1))) := D.val_drop (by omega)
        have hlt : D.val (T.drop (m + 1)) < 72057594037927936 := by
          have h1 := D.val_lt (hrd.dig.drop (m + 1))
          have h2 : (T.drop (m + 1)).length ≤ 7 := by simp; omega
          exact Nat.lt_of_lt_of_le h1 (Nat.pow_le_pow_right (by omega) h2)
        have hdg := hrd.dig.getD m
        generalize hy : D.val (T.drop (m + 1)) = y at *
        generalize hxx : T.getD m 0 = x at *
        clear hy hxx
        go_wp2
        go_round
        case rel => exact ⟨m, by omega, rfl, by rw [or_byte hlt hdg, hvd.out]⟩
        case measure => simp [intOf]
end Go.Proofs.YgcsafGreat
