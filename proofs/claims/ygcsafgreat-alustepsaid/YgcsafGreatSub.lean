import Derived.Test.YgcsafGreatCmp
namespace Go.Proofs.YgcsafGreat
open Go.RowKit
set_option linter.unusedVariables false
set_option linter.unusedSimpArgs false

set_option maxHeartbeats 400000 in
theorem take_nil (w : World) (ya : Option Addr) (lb cb : Nat) :
    Calls Safg.prog 260 #[.slice none 0 0, .slice ya lb cb] w fun e w' => e = .returned (.int .u16 0) ∧ w' = w := by
  go_enter Safg.func260, Safg.ntmps260
  go_wp2
  go_loop [5, 11] (fun c i => c = .int .u16 0 ∧ i = .int .i64 0) (fun _ _ => 0)
  case atStart => exact ⟨rfl, rfl⟩
  case round =>
    obtain ⟨rfl, rfl⟩ := hrel
    go_wp2
    go_ret
    exact ⟨rfl, rfl⟩

set_option maxHeartbeats 1000000 in
theorem take_any (w : World) (g n cap : Nat) (L0 B : List Nat) (ya : Option Addr) (lb cb : Nat) (ho : Own w g L0) (hd0 : D.Dig L0) (hn : L0.length = n) (hb : Rd w ya lb B) (hne : 0 < lb → ∀ b off, ya = some ⟨b, off, none⟩ → b ≠ g) (hlb : lb ≤ n) (hm : n ≤ 9223372036854775806) :
    Calls Safg.prog 260 #[.slice (some ⟨g, 0, none⟩) n cap, .slice ya lb cb] w fun e w' => ∃ L' bw, e = .returned (.int .u16 ((bw : Nat) : Int)) ∧ bw ≤ 1 ∧ Own w' g L' ∧ Only g w w' ∧ L'.length = n ∧ D.Dig L' ∧ D.val L' + D.val B = D.val L0 + bw * 256 ^ n := by
  have hbl := hb.length
  go_enter Safg.func260, Safg.ntmps260
  go_wp2
  go_loopw [5, 11] (fun cv i wr => ∃ (k bw : Nat) (L : List Nat), k ≤ n ∧ i = .int .i64 k ∧ cv = .int .u16 (bw : Int) ∧ bw ≤ 1 ∧ Own wr g L ∧ Only g w wr ∧ L.length = n ∧ D.Dig L ∧ D.val (L.take k) + D.val (B.take k) = D.val (L0.take k) + bw * 256 ^ k ∧ ∀ p, k ≤ p → L.getD p 0 = L0.getD p 0) (fun _ i _ => n - (intOf i).toNat)
  case atStart => exact ⟨0, 0, L0, Nat.zero_le _, rfl, rfl, by omega, ho, Only.refl _ _, hn, hd0, by simp [D.val], fun p _ => rfl⟩
  case round =>
    obtain ⟨k, bw, L, hk, rfl, rfl, hbw, ownr, onlyr, hL, hdL, hinv, hz⟩ := hrel
    have HI : Hid (D.val (L.take k) + D.val (B.take k) = D.val (L0.take k) + bw * 256 ^ k) := hinv
    have HZ : Hid (∀ p, k ≤ p → L.getD p 0 = L0.getD p 0) := hz
    clear hinv hz
    by_cases hkn : k < n
    · have hcell3 := ownr.cell k (by omega)
      rw [HZ.out k (Nat.le_refl _)] at hcell3
      have hdl := hd0.getD k
      have hfr := ownr.free k
      have HS : Hid (∀ s v bw', s = bw + B.getD k 0 → v + s = L0.getD k 0 + 256 * bw' → D.val ((L.set k v).take (k + 1)) + D.val (B.take (k + 1)) = D.val (L0.take (k + 1)) + bw' * 256 ^ (k + 1)) := fun s v bw' h1 h2 => D.take_step (by omega) HI.out h1 h2
      have HZ2 : Hid (∀ v p, k + 1 ≤ p → (L.set k v).getD p 0 = L0.getD p 0) := fun v p hp => by rw [D.getD_set (by omega), if_neg (by omega)]; exact HZ.out p (by omega)
      by_cases hkv : k < lb
      · obtain ⟨b, off, e1, hbl1, hcell⟩ := hb.cell k hkv
        have hcu : wr.cell? ⟨b, off + k, none⟩ = some (.int .u8 ((B.getD k 0 : Nat) : Int)) := by rw [onlyr.cell (p := ⟨b, off + k, none⟩) (hne (by omega) _ _ e1)]; exact hcell
        have hdu := hb.dig.getD k
        clear hcell
        generalize L0.getD k 0 = z at hcell3 hdl HS
        generalize B.getD k 0 = y at hcu hdu HS
        subst e1
        by_cases hlt : z < bw + y
        · have hset := ownr.setI (k := k) (by omega) (z + 256 - (bw + y)) (i := (z : Int) + 256 - (bw + y)) (by omega)
          go_wp2
          go_roundw
          case rel =>
            refine ⟨k + 1, 1, _, by omega, by go_num, rfl, by omega, ownr.setI (k := k) (by omega) (z + 256 - (bw + y)) (by omega), onlyr.setCell _ _, by simpa using hL, hdL.set _ (by omega), HS.out _ _ _ rfl (by omega), HZ2.out _⟩
          case measure => simp [intOf]; omega
        · go_wp2
          go_roundw
          case rel =>
            refine ⟨k + 1, 0, _, by omega, by go_num, rfl, by omega, ownr.setI (k := k) (by omega) (z - (bw + y)) (by omega), onlyr.setCell _ _, by simpa using hL, hdL.set _ (by omega), HS.out _ _ _ rfl (by omega), HZ2.out _⟩
          case measure => simp [intOf]; omega
      · have hv0 : B.getD k 0 = 0 := by simp [List.getElem?_eq_none (show B.length ≤ k by omega)]
        rw [hv0] at HS
        clear hv0
        generalize L0.getD k 0 = z at hcell3 hdl HS
        by_cases hlt : z < bw
        · go_wp2
          go_roundw
          case rel =>
            refine ⟨k + 1, 1, _, by omega, by go_num, rfl, by omega, ownr.setI (k := k) (by omega) (z + 256 - bw) (by omega), onlyr.setCell _ _, by simpa using hL, hdL.set _ (by omega), HS.out _ _ _ rfl (by omega), HZ2.out _⟩
          case measure => simp [intOf]; omega
        · go_wp2
          go_roundw
          case rel =>
            refine ⟨k + 1, 0, _, by omega, by go_num, rfl, by omega, ownr.setI (k := k) (by omega) (z - bw) (by omega), onlyr.setCell _ _, by simpa using hL, hdL.set _ (by omega), HS.out _ _ _ rfl (by omega), HZ2.out _⟩
          case measure => simp [intOf]; omega
    · have hkU : k = n := by omega
      subst hkU
      have HF : Hid (D.val L + D.val B = D.val L0 + bw * 256 ^ k) := by
        show _ = _
        have := HI.out
        rwa [D.take_all (show L.length ≤ k by omega), D.take_all (show B.length ≤ k by omega), D.take_all (show L0.length ≤ k by omega)] at this
      go_wp2
      go_ret
      exact ⟨L, bw, rfl, hbw, ownr, onlyr, hL, hdL, HF.out⟩

set_option maxHeartbeats 400000 in
theorem clip_nil (w : World) : Calls Safg.prog 257 #[.slice none 0 0] w fun e w' => e = .returned (.slice none 0 0) ∧ w' = w := by
  go_enter Safg.func257, Safg.ntmps257
  go_wp2_with (go_at_call 96; refine (trim_any _ _ 0 0 [] (Rd.nil _ _) (Nat.le_refl _) (by omega)).mono ?_; rintro e w' ⟨rfl, hw⟩; subst hw; simp only [D.trimL, List.length_nil])
  go_ret
  exact ⟨rfl, rfl⟩

set_option maxHeartbeats 1000000 in
theorem sub_any (w : World) (xa ya : Option Addr) (la ca lb cb : Nat) (A B : List Nat) (ha : Rd w xa la A) (hb : Rd w ya lb B) (hla : la ≤ ca) (hlb : lb ≤ cb) (hca : ca ≤ 281474976710655) (hcb : cb ≤ 281474976710655) :
    Calls Safg.prog 258 #[.slice xa la ca, .slice ya lb cb] w fun e w' => Below w.heap.size w w' ∧
      ((D.val A < D.val B ∧ e = .returned (.tuple #[.slice none 0 0, .bool false])) ∨ (D.val B ≤ D.val A ∧ ∃ a' l, e = .returned (.tuple #[.slice a' l.length l.length, .bool true]) ∧ Made w.heap.size w' a' l ∧ D.val l = D.val A - D.val B ∧ l.length ≤ la)) := by
  have hal := ha.length
  have hbl := hb.length
  have htA := D.trimL_len A
  have htB := D.trimL_len B
  have hrY := hb.trim
  have HVA : Hid (D.val A = D.val (D.trimL A)) := (D.trimL_val A).symm
  have HVB : Hid (D.val B = D.val (D.trimL B)) := (D.trimL_val B).symm
  go_enter Safg.func258, Safg.ntmps258
  go_wp2_with fail
  refine (cmp_any _ _ _ _ _ _ _ A B ha hb hla hlb (by omega) (by omega)).mono ?_
  rintro e w1 ⟨rfl, hs⟩
  have ha1 := ha.below (hs.below _)
  have hb1 := hb.below (hs.below _)
  by_cases hlt : D.val A < D.val B
  · rw [D.cmpN_lt hlt]
    go_wp2
    go_ret2
    exact ⟨hs.below _, .inl ⟨hlt, rfl⟩⟩
  · obtain ⟨cv, hcv, hcv0⟩ : ∃ cv, D.cmpN (D.val A) (D.val B) = cv ∧ 0 ≤ cv := ⟨_, rfl, by unfold D.cmpN; rw [if_neg hlt]; split <;> omega⟩
    rw [hcv]
    clear hcv
    go_wp2_with fail
    refine (norm_any _ _ _ _ A ha1 hla (by omega)).mono ?_
    rintro e w2 ⟨na, rfl, hnm, b2⟩
    have hb2 := hb1.below b2
    have hrY2 := hb2.trim
    go_wp2_with fail
    refine (trim_any _ _ _ _ B hb2 hlb (by omega)).mono ?_
    rintro e w3 ⟨rfl, hw⟩
    subst hw
    have hz1 : w1.heap.size = w.heap.size := by rw [hs.heap]
    have HZ1 : Hid (w1.heap.size = w.heap.size) := hz1
    clear hz1
    have b02 : Below w.heap.size w w3 := (hs.below _).trans (b2.mono (by rw [HZ1.out]; exact Nat.le_refl _))
    have hle : D.val (D.trimL B) ≤ D.val (D.trimL A) := by rw [← HVA.out, ← HVB.out]; omega
    have hnYl : (D.trimL B).length ≤ (D.trimL A).length := by
      apply Nat.le_of_not_lt
      intro hh
      have := D.lt_of_len (D.trimL_dig ha.dig) (D.trimL_nm B) hh
      omega
    generalize D.trimL A = X at *
    generalize D.trimL B = Y at *
    by_cases hX : X = []
    · subst hX
      have hna := hnm.nat.nil rfl
      subst hna
      go_wp2_with fail
      refine (take_nil _ _ _ _).mono ?_
      rintro e w4 ⟨rfl, hw⟩
      subst hw
      go_wp2_with fail
      refine (clip_nil _).mono ?_
      rintro e w5 ⟨rfl, hw⟩
      subst hw
      go_wp2
      go_ret2
      refine ⟨b02, .inr ⟨by omega, none, [], rfl, Made.nil _ _, ?_, by simp⟩⟩
      rw [HVA.out]; simp [D.val]
    · obtain ⟨g, hna, hg, hown⟩ := hnm.own hX
      subst hna
      go_wp2_with fail
      refine (take_any _ g X.length X.length X Y ya Y.length Y.length hown hnm.nat.rd.dig rfl hrY2 ?_ hnYl (by omega)).mono ?_
      · intro hpos b off e
        obtain ⟨b', off', e', hlt', _⟩ := hb.cell 0 (by omega)
        have e'' : (⟨b, off, none⟩ : Addr) = ⟨b', off', none⟩ := Option.some.inj (e.symm.trans e')
        have e3 : b = b' := congrArg Addr.block e''
        have := HZ1.out
        omega
      rintro e w4 ⟨L, bw, rfl, hbw, o4, only4, hL4, hd4, hv4⟩
      have HF : Hid (D.val (D.trimL L) = D.val A - D.val B) := by
        show _ = _
        have h1 := D.val_lt hd4
        rw [hL4] at h1
        rw [D.trimL_val, HVA.out, HVB.out]
        have h2 : bw = 0 := by
          rcases Nat.eq_zero_or_pos bw with h | h
          · exact h
          · exfalso
            have : 256 ^ X.length ≤ bw * 256 ^ X.length := Nat.le_mul_of_pos_left _ h
            omega
        rw [h2] at hv4
        omega
      clear hv4
      have htl := D.trimL_len L
      have hgw : w.heap.size ≤ g := by rw [← HZ1.out]; exact hg
      go_wp2_with fail
      refine (clip_any _ g X.length w.heap.size L o4 hd4 hL4 hgw (by omega)).mono ?_
      rintro e w5 ⟨a', rfl, hm5, hw⟩
      subst hw
      go_wp2
      go_ret2
      exact ⟨b02.trans (only4.below hgw), .inr ⟨by omega, a', _, rfl, hm5, HF.out, by omega⟩⟩
end Go.Proofs.YgcsafGreat
