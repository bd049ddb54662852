/-
  'u256.down' (335), 'u256.Shr' (225), 'u256.Sar' (226).
-/
import Derived.Test.YgcsafGreatShl
namespace Go.Proofs.YgcsafGreat
open Go.RowKit
set_option linter.unusedVariables false
set_option linter.unusedSimpArgs false

/-- The limbs from d on, then the fill. -/
def extF (b : Wd4) (d f : Nat) : List Nat := b.l.drop d ++ List.replicate (d + 1) f
theorem ext_low {b : Wd4} {d f j : Nat} (h : d + j < 4) : (extF b d f).getD j 0 = b.l.getD (d + j) 0 := by
  unfold extF
  simp only [List.getD_eq_getElem?_getD]
  rw [List.getElem?_append_left (by simp [Wd4.l]; omega), List.getElem?_drop]
theorem ext_high {b : Wd4} {d f j : Nat} (hd : d < 4) (h : 4 ≤ d + j) (h2 : j ≤ 4) : (extF b d f).getD j 0 = f := by
  unfold extF
  simp only [List.getD_eq_getElem?_getD]
  rw [List.getElem?_append_right (by simp [Wd4.l]; omega), List.getElem?_replicate, if_pos (by simp [Wd4.l]; omega)]
  rfl
theorem ext_lim {b : Wd4} (hb : b.Ok) {d f : Nat} (hf : f < 18446744073709551616) : Lim (extF b d f) := by
  intro x hx
  rcases List.mem_append.1 hx with h | h
  · exact Wd4.lim hb x (List.mem_of_mem_drop h)
  · rw [List.eq_of_mem_replicate h]; exact hf

def DownInv (E K : List Nat) (r m : Nat) : Prop := wv K 0 m * 2 ^ r + E.getD 0 0 % 2 ^ r = wv E 0 m + b64 ^ m * (E.getD m 0 % 2 ^ r)
theorem DownInv.start (E K : List Nat) (r : Nat) : DownInv E K r 0 := by unfold DownInv; simp [wv]
theorem DownInv.step {E K : List Nat} {r m u : Nat} (h : DownInv E K r m) (hu : K.getD m 0 = u) (e : u * 2 ^ r + E.getD m 0 % 2 ^ r = E.getD m 0 + b64 * (E.getD (m + 1) 0 % 2 ^ r)) : DownInv E K r (m + 1) := by
  unfold DownInv at *
  rw [wv_succ, wv_succ, Nat.zero_add, hu, Nat.pow_succ]
  have f : b64 ^ m * (u * 2 ^ r + E.getD m 0 % 2 ^ r) = b64 ^ m * (E.getD m 0 + b64 * (E.getD (m + 1) 0 % 2 ^ r)) := by rw [e]
  simp only [Nat.mul_add, Nat.add_mul, Nat.mul_assoc] at f h ⊢
  omega
theorem DownInv.congr {E K K' : List Nat} {r m : Nat} (h : DownInv E K r m) (hk : ∀ j, j < m → K'.getD j 0 = K.getD j 0) : DownInv E K' r m := by
  unfold DownInv at *
  rw [wv_congr (U := K') (U' := K) (fun j hj => by rw [Nat.zero_add]; exact hk j hj)]; exact h
/-- The fill stays as it is. -/
def Fixed (f r : Nat) : Prop := f * 2 ^ r + f % 2 ^ r = f + b64 * (f % 2 ^ r)
theorem DownInv.fill {b : Wd4} {K : List Nat} {d f r : Nat} (hd : d < 4) (hf : Fixed f r) : ∀ n m, m + n = 4 → 4 ≤ d + m → DownInv (extF b d f) K r m → (∀ j, m ≤ j → j < 4 → K.getD j 0 = f) → DownInv (extF b d f) K r 4
  | 0, m, h1, h2, h, hk => by obtain rfl : m = 4 := by omega
                              exact h
  | n + 1, m, h1, h2, h, hk => by
    refine DownInv.fill hd hf n (m + 1) (by omega) (by omega) (h.step (hk m (Nat.le_refl _) (by omega)) ?_) (fun j h3 h4 => hk j (by omega) h4)
    rw [ext_high hd h2 (by omega), ext_high hd (by omega) (by omega)]
    exact hf
theorem fixed_zero (r : Nat) : Fixed 0 r := by unfold Fixed; simp
theorem ones_mod {r : Nat} (hr : r < 64) : 18446744073709551615 % 2 ^ r = 2 ^ r - 1 := by
  have h : 18446744073709551616 = 2 ^ r * 2 ^ (64 - r) := by rw [← Nat.pow_add, show r + (64 - r) = 64 by omega]
  have p : 0 < 2 ^ r := Nat.pow_pos (by omega)
  have p2 : 0 < 2 ^ (64 - r) := Nat.pow_pos (by omega)
  have e : 18446744073709551615 = 2 ^ r * (2 ^ (64 - r) - 1) + (2 ^ r - 1) := by
    rw [Nat.mul_sub, ← h, Nat.mul_one]
    have : 2 ^ r ≤ 18446744073709551616 := by rw [h]; exact Nat.le_mul_of_pos_right _ p2
    omega
  rw [e, Nat.mul_add_mod, Nat.mod_eq_of_lt (by omega)]
theorem fixed_ones {r : Nat} (hr : r < 64) : Fixed 18446744073709551615 r := by
  unfold Fixed
  rw [ones_mod hr, b64_eq]
  have p : 0 < 2 ^ r := Nat.pow_pos (by omega)
  generalize 2 ^ r = T at *
  omega

def fillW (f : Nat) : Wd4 := ⟨f, f, f, f⟩

set_option maxRecDepth 100000 in
set_option maxHeartbeats 2000000 in
theorem down_small (w : World) (a b : Wd4) (ha : a.Ok) (hb : b.Ok) (f : Nat) (hf : f < 18446744073709551616) (h256 : a.val < 256) (z d r : Nat) (hd : a.val / 64 = d) (hr : a.val % 64 = r)
    (HF : Hid (∀ v : Wd4, v.val * 2 ^ r + (extF b d f).getD 0 0 % 2 ^ r = wv (extF b d f) 0 4 + b256 * (f % 2 ^ r) → v.val = z)) (hfix : Hid (Fixed f r)) :
    Calls Safg.prog 335 #[a.v, b.v, .int .u64 (f : Int)] w (WdRes w z) := by
  have HB := fun w => below_small w a ha 256 (by omega) h256
  have q1 : (a.val : Int) / 64 = (d : Int) := by omega
  have q2 : (a.val : Int) % 64 = (r : Int) := by omega
  have hd4 : d < 4 := by omega
  have hr64 : r < 64 := by omega
  have lb := Wd4.lim hb
  generalize a.val = i at *
  clear hd hr
  have fok : (fillW f).Ok := ⟨hf, hf, hf, hf⟩
  go_enter Safg.func335, Safg.ntmps335
  go_upto_region 5 with (first | (refine wpList_box_agg rfl 65 (.tmp 0) rfl a.cells rfl ?_; intro w1 g3 hg3 k3 c3) | (refine wpList_box_agg rfl 65 (.tmp 1) rfl b.cells rfl ?_; intro w2 g4 hg4 k4 c4; have k3 := k3.below c4 k3.lt) | (refine wpList_alloc_agg rfl 65 rfl _ Safg.zero65 ?_; first | ((fail_if_success (revert hg6)); intro w3 g6 hg6 k6 c6; have l3 := k3.lt; have l4 := k4.lt; have k3 := k3.below c6 k3.lt; have k4 := k4.below c6 k4.lt) | (intro w4 g7 hg7 k7 c7; have l6 := k6.lt; have k3 := k3.below c7 k3.lt; have k4 := k4.below c7 k4.lt; have k6 := k6.below c7 k6.lt)) | (refine wpList_store_agg rfl 65 _ _ rfl g7 rfl _ (fillW f).cells rfl k7 rfl Safg.size65 (Wd4.one _) ?_; intro w5 k7' o7; have k3 := o7.blk k3 (by omega); have k4 := o7.blk k4 (by omega); have k6 := o7.blk k6 (by omega)) | (refine wpList_load_mid rfl 65 (.tmp 3) rfl g3 0 rfl _ _ k3.cell Safg.under65 rfl Safg.size65 ?_) | (go_at_call 333; refine (HB _).mono ?_; rintro e w6 ⟨rfl, b6⟩))
  have s1 := c3.size; have s2 := c4.size; have s3 := c6.size; have s4 := c7.size; have s5 := o7.size; have s6 := b6.size
  have t4 := k4.lt; have t6 := k6.lt; have t7 := k7'.lt
  have r4 : OwnU w6 g4 b.l := Blk.ownU (k4.below b6 k4.lt)
  have r6 : Blk w6 g6 _ := k6.below b6 k6.lt
  have r7 : OwnU w6 g7 (fillW f).l := Blk.ownU (k7'.below b6 k7'.lt)
  have n47 : g4 ≠ g7 := by omega
  have n67 : g6 ≠ g7 := by omega
  have bb : Below w.heap.size w w6 := c3.trans ((c4.mono s1).trans ((c6.mono (by omega)).trans ((c7.mono (by omega)).trans ((o7.below (by omega)).trans (b6.mono (by omega))))))
  have h7 : w.heap.size ≤ g7 := by omega
  have h6 : w.heap.size ≤ g6 := by omega
  clear c3 c4 c6 c7 b6 k3 k4 k6 k7 k7' o7
  go_upto_region 6 with fail
  go_loopw [10] (fun i wr => ∃ (k m : Nat) (K : List Nat), k = d + m ∧ k ≤ 4 ∧ i = .int .u64 (k : Int) ∧ OwnU wr g7 K ∧ Only g7 w6 wr ∧ Lim K ∧ K.length = 4 ∧ Hid ((∀ j, m ≤ j → j < 4 → K.getD j 0 = f) ∧ DownInv (extF b d f) K r m)) (fun i _ => 4 - (intOf i).toNat)
  case atStart =>
    refine ⟨d, 0, _, by omega, by omega, rfl, r7, Only.refl _ _, Wd4.lim fok, rfl, fun j _ hj => ?_, DownInv.start _ _ _⟩
    rcases (show j = 0 ∨ j = 1 ∨ j = 2 ∨ j = 3 by omega) with rfl | rfl | rfl | rfl <;> rfl
  case round =>
    obtain ⟨k, m, K, hkm, hk4, rfl, own, only, lK, hK, HI⟩ := hrel
    have own4 : OwnU wr g4 b.l := r4.only only n47
    by_cases hm4 : k < 4
    · have t0 : decide ((k : Int) < 4) = true := decide_eq_true (by omega)
      have q5 : (k : Int) - (d : Int) = (m : Int) := by omega
      have ck := own4.cell k (by show k < 4; omega)
      have cm := own.cell m (by omega)
      have fm := own.free m
      have lk := lb.getD k
      have ex : (extF b d f).getD m 0 = b.l.getD k 0 := by rw [ext_low (by omega), ← hkm]
      have q8 : (64 : Int) - (r : Int) = ((64 - r : Nat) : Int) := by omega
      obtain ⟨y, HY⟩ : ∃ y, Hid ((extF b d f).getD (m + 1) 0 = y) := ⟨_, rfl⟩
      have ly : y < 18446744073709551616 := by rw [← HY.out]; exact (ext_lim hb hf).getD _
      have HYR : Hid (y % 2 ^ r < 2 ^ r) := Nat.mod_lt _ (Nat.pow_pos (by omega))
      have HS : Hid (∀ u, u * 2 ^ r + b.l.getD k 0 % 2 ^ r = b.l.getD k 0 + b64 * (y % 2 ^ r) → (∀ j, m + 1 ≤ j → j < 4 → (K.set m u).getD j 0 = f) ∧ DownInv (extF b d f) (K.set m u) r (m + 1)) := by
        intro u h
        refine ⟨fun j h1 h2 => ?_, ?_⟩
        · rw [getD_setU (by omega), if_neg (by omega)]; exact HI.out.1 j (by omega) h2
        · refine DownInv.step (u := u) (HI.out.2.congr fun j hj => ?_) ?_ ?_
          · rw [getD_setU (by omega), if_neg (by omega)]
          · rw [getD_setU (by omega), if_pos rfl]
          · rw [ex, HY.out]; exact h
      have HYB : Hid (k < 3 → b.l.getD (k + 1) 0 = y) := fun h => by
        rw [← HY.out, ext_low (by omega), hkm, Nat.add_assoc]
      have HYF : Hid (k = 3 → f = y) := fun h => by rw [← HY.out, ext_high hd4 (by omega) (by omega)]
      obtain ⟨x, HX⟩ : ∃ x, Hid (b.l.getD k 0 = x) := ⟨_, rfl⟩
      rw [HX.out] at ck lk HS
      obtain ⟨e1, e2, _, e4⟩ := down_limb lk hr64 HYR.out
      have e3 := (down_limb ly hr64 HYR.out).2.2.1
      obtain ⟨u, HU⟩ : ∃ u, Hid (x / 2 ^ r + y % 2 ^ r * 2 ^ (64 - r) = u) := ⟨_, rfl⟩
      have E1 : Hid (bits .or .u64 ((x : Int) / 2 ^ r) (IntKind.u64.wrap ((y : Int) * 2 ^ (64 - r))) = (u : Int)) := by
        show _ = _
        rw [wrap_shl, e3, cast_shr, e1, HU.out]
      rw [HU.out] at e2 e4
      have HS2 := HS.out u e4
      have HS3 : Hid ((∀ j, m + 1 ≤ j → j < 4 → (K.set m u).getD j 0 = f) ∧ DownInv (extF b d f) (K.set m u) r (m + 1)) := HS2
      have HKM : Hid (k = d + m) := hkm
      have hmk : m < 4 := by omega
      clear e1 e3 e4 HS HS2 HX HU HY ex hkm
      by_cases h3 : k < 3
      · have t1 : decide ((k : Int) < 3) = true := decide_eq_true (by omega)
        have c3 := own4.cell (k + 1) (by show k + 1 < 4; omega)
        rw [HYB.out h3] at c3
        go_upto_region 7 with fail
        rw [E1.out]
        go_wp2
        go_roundw
        case rel =>
          exact ⟨k + 1, m + 1, K.set m u, by have := HKM.out; omega, by omega, by go_num, own.set (by omega) u, only.setCell _ _, lK.set _ e2, by simpa using hK, HS3.out⟩
        case measure => simp [intOf]; omega
      · have t1 : decide ((k : Int) < 3) = false := decide_eq_false (by omega)
        have hfy := HYF.out (by omega)
        rw [← hfy] at E1
        clear hfy
        go_upto_region 7 with fail
        rw [E1.out]
        go_wp2
        go_roundw
        case rel =>
          exact ⟨k + 1, m + 1, K.set m u, by have := HKM.out; omega, by omega, by go_num, own.set (by omega) u, only.setCell _ _, lK.set _ e2, by simpa using hK, HS3.out⟩
        case measure => simp [intOf]; omega
    · have hk : k = 4 := by omega
      subst hk
      obtain ⟨v, hv⟩ := list4 hK
      have hinv : DownInv (extF b d f) K r 4 := DownInv.fill hd4 hfix.out (4 - m) m (by omega) (by omega) HI.out.2 HI.out.1
      have vz : v.val = z := by
        refine HF.out v ?_
        unfold DownInv at hinv
        rw [← hv, ← Wd4.val_wv, ext_high (j := 4) hd4 (by omega) (by omega), b64_four] at hinv
        exact hinv
      have VZ : Hid (v.val = z) := vz
      have vok : v.Ok := Lim.ok (by rw [hv]; exact lK)
      have k7 : Blk wr g7 v.cells := by
        have := own.blk
        rw [← hv] at this
        exact this
      have k6 : Blk wr g6 _ := only.blk r6 n67
      clear vz HI HF hv hkm hinv
      go_wp2_with (first | (refine wpList_load_mid rfl 65 (.tmp 7) rfl g7 0 rfl _ _ k7.cell Safg.under65 rfl Safg.size65 ?_) | (refine wpList_store_agg rfl 65 _ _ rfl g6 rfl _ v.cells rfl k6 rfl Safg.size65 (Wd4.one _) ?_; intro w9 k9 n9))
      refine bodyPost_ret (results_cell1 Safg.results335 _ w9 g6 _ _ rfl k9 Safg.under65 rfl Safg.size65) rfl ⟨v, vok, VZ.out, rfl, bb.trans ((only.below (by omega)).trans (n9.below (by omega)))⟩

set_option maxRecDepth 100000 in
set_option maxHeartbeats 2000000 in
theorem down_big (w : World) (a b : Wd4) (ha : a.Ok) (hb : b.Ok) (f : Nat) (hf : f < 18446744073709551616) (h256 : 256 ≤ a.val) :
    Calls Safg.prog 335 #[a.v, b.v, .int .u64 (f : Int)] w (WdRes w (fillW f).val) := by
  have HB := fun w => below_big w a ha 256 (by omega) h256
  clear h256
  have fok : (fillW f).Ok := ⟨hf, hf, hf, hf⟩
  go_enter Safg.func335, Safg.ntmps335
  go_upto_region 4 with (first | (refine wpList_box_agg rfl 65 (.tmp 0) rfl a.cells rfl ?_; intro w1 g3 hg3 k3 c3) | (refine wpList_box_agg rfl 65 (.tmp 1) rfl b.cells rfl ?_; intro w2 g4 hg4 k4 c4; have k3 := k3.below c4 k3.lt) | (refine wpList_alloc_agg rfl 65 rfl _ Safg.zero65 ?_; first | ((fail_if_success (revert hg6)); intro w3 g6 hg6 k6 c6; have l3 := k3.lt; have l4 := k4.lt; have k3 := k3.below c6 k3.lt; have k4 := k4.below c6 k4.lt) | (intro w4 g7 hg7 k7 c7; have l6 := k6.lt; have k3 := k3.below c7 k3.lt; have k4 := k4.below c7 k4.lt; have k6 := k6.below c7 k6.lt)) | (refine wpList_store_agg rfl 65 _ _ rfl g7 rfl _ (fillW f).cells rfl k7 rfl Safg.size65 (Wd4.one _) ?_; intro w5 k7' o7; have k3 := o7.blk k3 (by omega); have k4 := o7.blk k4 (by omega); have k6 := o7.blk k6 (by omega)) | (refine wpList_load_mid rfl 65 (.tmp 3) rfl g3 0 rfl _ _ k3.cell Safg.under65 rfl Safg.size65 ?_) | (go_at_call 333; refine (HB _).mono ?_; rintro e w6 ⟨x, rfl, b6⟩))
  have s1 := c3.size; have s2 := c4.size; have s3 := c6.size; have s4 := c7.size; have s5 := o7.size; have s6 := b6.size
  have t4 := k4.lt; have t6 := k6.lt; have t7 := k7'.lt
  have r6 : Blk w6 g6 _ := k6.below b6 k6.lt
  have r7 : Blk w6 g7 (fillW f).cells := k7'.below b6 k7'.lt
  have bb : Below w.heap.size w w6 := c3.trans ((c4.mono s1).trans ((c6.mono (by omega)).trans ((c7.mono (by omega)).trans ((o7.below (by omega)).trans (b6.mono (by omega))))))
  go_wp2_with (first | (refine wpList_load_mid rfl 65 (.tmp 7) rfl g7 0 rfl _ _ r7.cell Safg.under65 rfl Safg.size65 ?_) | (refine wpList_store_agg rfl 65 _ _ rfl g6 rfl _ (fillW f).cells rfl r6 rfl Safg.size65 (Wd4.one _) ?_; intro w9 k9 n9))
  refine bodyPost_ret (results_cell1 Safg.results335 _ w9 g6 _ _ rfl k9 Safg.under65 rfl Safg.size65) rfl ⟨fillW f, fok, rfl, rfl, bb.trans (n9.below (by omega))⟩
end Go.Proofs.YgcsafGreat
