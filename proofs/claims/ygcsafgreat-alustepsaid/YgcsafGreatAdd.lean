import Derived.Test.YgcsafGreatNorm
namespace Go.Proofs.YgcsafGreat
open Go.RowKit
set_option linter.unusedVariables false
set_option linter.unusedSimpArgs false

set_option maxHeartbeats 400000 in
theorem clip_any (w : World) (g n B : Nat) (L : List Nat) (h : Own w g L) (hd : D.Dig L) (hn : L.length = n) (hB : B ≤ g) (hm : n ≤ 281474976710656) :
    Calls Safg.prog 257 #[.slice (some ⟨g, 0, none⟩) n n] w fun e w' => ∃ a', e = .returned (.slice a' (D.trimL L).length (D.trimL L).length) ∧ Made B w a' (D.trimL L) ∧ w' = w := by
  have hrd := h.rd hd
  rw [hn] at hrd
  have htl := D.trimL_len L
  have hmade : D.trimL L ≠ [] → Made B w (some ⟨g, 0, none⟩) (D.trimL L) := fun hne => Made.of_own h.trim (D.trimL_dig hd) (D.trimL_nm L) hne hB
  go_enter Safg.func257, Safg.ntmps257
  go_upto_region 2 with (go_at_call 96; refine (trim_any _ _ _ _ L hrd (Nat.le_refl _) (by omega)).mono ?_; rintro e w' ⟨rfl, hw⟩; subst hw)
  generalize hT : D.trimL L = T at *
  have HT : Hid (D.trimL L = T) := hT
  have HM : Hid (T ≠ [] → Made B w' (some ⟨g, 0, none⟩) T) := hmade
  clear hT hmade
  by_cases h0 : T.length = 0
  · have hT0 : T = [] := List.length_eq_zero_iff.1 h0
    subst hT0
    go_wp2
    go_ret
    exact ⟨none, by rw [HT.out]; rfl, by rw [HT.out]; exact Made.nil _ _, rfl⟩
  · have h0' : (((T.length : Nat) : Int) == 0) = false := by simpa using h0
    go_wp2
    go_ret
    exact ⟨some ⟨g, 0, none⟩, by rw [HT.out]; rfl, by rw [HT.out]; exact HM.out (fun e => h0 (by rw [e]; rfl)), rfl⟩

set_option maxHeartbeats 1000000 in
theorem add_any (w : World) (xa ya : Option Addr) (la ca lb cb : Nat) (A B : List Nat) (ha : Rd w xa la A) (hb : Rd w ya lb B) (hla : la ≤ ca) (hlb : lb ≤ cb) (hca : ca ≤ 281474976710655) (hcb : cb ≤ 281474976710655) :
    Calls Safg.prog 98 #[.slice xa la ca, .slice ya lb cb] w fun e w' => ∃ a' l, e = .returned (.slice a' l.length l.length) ∧ Made w.heap.size w' a' l ∧ D.val l = D.val A + D.val B ∧ (l.length ≤ la + 1 ∨ l.length ≤ lb + 1) ∧ Below w.heap.size w w' := by
  have hal := ha.length
  have hbl := hb.length
  have htA := D.trimL_len A
  have htB := D.trimL_len B
  have hrX := ha.trim
  have hrY := hb.trim
  have HV : Hid (D.val (D.trimL A) + D.val (D.trimL B) = D.val A + D.val B) := by show _ = _; rw [D.trimL_val, D.trimL_val]
  go_enter Safg.func98, Safg.ntmps98
  go_upto_region 2 with (go_at_call 96; refine (trim_any _ _ _ _ A ha hla (by omega)).mono ?_; rintro e w' ⟨rfl, hw⟩; subst hw)
  go_upto_region 3 with (go_at_call 96; refine (trim_any _ _ _ _ B hb hlb (by omega)).mono ?_; rintro e w1 ⟨rfl, hw⟩; subst hw)
  generalize D.trimL A = X at *
  generalize D.trimL B = Y at *
  by_cases hlt : X.length < Y.length
  · go_upto_region 5 with fail
    have hVU : X.length ≤ Y.length := by omega
    have HV2 : Hid (D.val Y + D.val X = D.val A + D.val B) := by show _ = _; have := HV.out; omega
    go_upto_region 8 with (refine wpList_make_bytes _ rfl _ _ 98 rfl Safg.underlying98 .i64 .i64 _ _ (Y.length + 1) rfl rfl (by omega) (by omega) (by omega) ?_; intro w2 g hg o2 b2)
    go_loopw [6, 26] (fun cv i wr => ∃ (k c : Nat) (L : List Nat), k ≤ Y.length ∧ i = .int .i64 k ∧ cv = .int .u16 (c : Int) ∧ c ≤ 1 ∧ Own wr g L ∧ Only g w2 wr ∧ L.length = Y.length + 1 ∧ D.Dig L ∧ D.val (L.take k) + c * 256 ^ k = D.val (Y.take k) + D.val (X.take k)) (fun _ i _ => Y.length - (intOf i).toNat)
    case atStart => exact ⟨0, 0, _, Nat.zero_le _, rfl, rfl, by omega, o2, Only.refl _ _, by simp, D.Dig.replicate _, by simp [D.val]⟩
    case round =>
      obtain ⟨k, c, L, hk, rfl, rfl, hc1, ownr, onlyr, hL, hdL, hinv⟩ := hrel
      have HI : Hid (D.val (L.take k) + c * 256 ^ k = D.val (Y.take k) + D.val (X.take k)) := hinv
      clear hinv
      by_cases hkn : k < Y.length
      · obtain ⟨b, off, e1, hbl1, hcell⟩ := hrY.cell k hkn
        have hcu : wr.cell? ⟨b, off + k, none⟩ = some (.int .u8 ((Y.getD k 0 : Nat) : Int)) := by rw [onlyr.cell (p := ⟨b, off + k, none⟩) (show b ≠ g by omega), b2.cell (p := ⟨b, off + k, none⟩) hbl1]; exact hcell
        have hdu := hrY.dig.getD k
        have hcell3 := ownr.cell k (by omega)
        have hfr := ownr.free k
        have HS : Hid (∀ s, s = c + Y.getD k 0 + X.getD k 0 → D.val ((L.set k (s % 256)).take (k + 1)) + (s / 256) * 256 ^ (k + 1) = D.val (Y.take (k + 1)) + D.val (X.take (k + 1))) := fun s hs => D.add_step (by omega) HI.out hs
        clear hcell
        by_cases hkv : k < X.length
        · obtain ⟨b', off', e2, hbl2, hcell'⟩ := hrX.cell k hkv
          have hcv : wr.cell? ⟨b', off' + k, none⟩ = some (.int .u8 ((X.getD k 0 : Nat) : Int)) := by rw [onlyr.cell (p := ⟨b', off' + k, none⟩) (show b' ≠ g by omega), b2.cell (p := ⟨b', off' + k, none⟩) hbl2]; exact hcell'
          have hdv := hrX.dig.getD k
          clear hcell'
          generalize Y.getD k 0 = x at hcu hdu HS
          generalize X.getD k 0 = y at hcv hdv HS
          have hset := ownr.setI (k := k) (by omega) ((c + x + y) % 256) (i := ((c : Int) + x + y) % 256) (by omega)
          subst e1
          subst e2
          go_wp2
          go_roundw
          case rel => exact ⟨k + 1, (c + x + y) / 256, _, by omega, by go_num, by go_num, by omega, hset, onlyr.setCell _ _, by simpa using hL, hdL.set _ (by omega), HS.out _ rfl⟩
          case measure => simp [intOf]; omega
        · have hv0 : X.getD k 0 = 0 := by simp [List.getElem?_eq_none (show X.length ≤ k by omega)]
          rw [hv0] at HS
          clear hv0
          generalize Y.getD k 0 = x at hcu hdu HS
          have hset := ownr.setI (k := k) (by omega) ((c + x + 0) % 256) (i := ((c : Int) + x) % 256) (by omega)
          subst e1
          go_wp2
          go_roundw
          case rel => exact ⟨k + 1, (c + x + 0) / 256, _, by omega, by go_num, by go_num, by omega, hset, onlyr.setCell _ _, by simpa using hL, hdL.set _ (by omega), HS.out _ rfl⟩
          case measure => simp [intOf]; omega
      · have hkU : k = Y.length := by omega
        subst hkU
        have hcell3 := ownr.cell Y.length (by omega)
        have hfr := ownr.free Y.length
        have hset := ownr.setI (k := Y.length) (by omega) c (i := (c : Int)) rfl
        have HF : Hid (D.val (L.set Y.length c) = D.val A + D.val B) := by show _ = _; rw [← HV2.out]; exact D.add_last hL (by omega) hVU HI.out
        have hds := hdL.set Y.length (show c < 256 by omega)
        have hls : (L.set Y.length c).length = Y.length + 1 := by simpa using hL
        have htl := D.trimL_len (L.set Y.length c)
        have HT : Hid (D.val (D.trimL (L.set Y.length c)) = D.val A + D.val B) := by show _ = _; rw [D.trimL_val]; exact HF.out
        have hons := onlyr.setCell Y.length (.int .u8 (c : Int))
        go_wp2_with (go_at_call 257; refine (clip_any _ g (Y.length + 1) w1.heap.size _ hset hds hls hg (by omega)).mono ?_; rintro e w3 ⟨a', rfl, hm, hw⟩; subst hw)
        go_ret
        exact ⟨a', _, rfl, hm, HT.out, by omega, b2.trans (hons.below hg)⟩
  · go_upto_region 5 with fail
    have hVU : Y.length ≤ X.length := by omega
    have HV2 : Hid (D.val X + D.val Y = D.val A + D.val B) := by show _ = _; have := HV.out; omega
    go_upto_region 8 with (refine wpList_make_bytes _ rfl _ _ 98 rfl Safg.underlying98 .i64 .i64 _ _ (X.length + 1) rfl rfl (by omega) (by omega) (by omega) ?_; intro w2 g hg o2 b2)
    go_loopw [6, 26] (fun cv i wr => ∃ (k c : Nat) (L : List Nat), k ≤ X.length ∧ i = .int .i64 k ∧ cv = .int .u16 (c : Int) ∧ c ≤ 1 ∧ Own wr g L ∧ Only g w2 wr ∧ L.length = X.length + 1 ∧ D.Dig L ∧ D.val (L.take k) + c * 256 ^ k = D.val (X.take k) + D.val (Y.take k)) (fun _ i _ => X.length - (intOf i).toNat)
    case atStart => exact ⟨0, 0, _, Nat.zero_le _, rfl, rfl, by omega, o2, Only.refl _ _, by simp, D.Dig.replicate _, by simp [D.val]⟩
    case round =>
      obtain ⟨k, c, L, hk, rfl, rfl, hc1, ownr, onlyr, hL, hdL, hinv⟩ := hrel
      have HI : Hid (D.val (L.take k) + c * 256 ^ k = D.val (X.take k) + D.val (Y.take k)) := hinv
      clear hinv
      by_cases hkn : k < X.length
      · obtain ⟨b, off, e1, hbl1, hcell⟩ := hrX.cell k hkn
        have hcu : wr.cell? ⟨b, off + k, none⟩ = some (.int .u8 ((X.getD k 0 : Nat) : Int)) := by rw [onlyr.cell (p := ⟨b, off + k, none⟩) (show b ≠ g by omega), b2.cell (p := ⟨b, off + k, none⟩) hbl1]; exact hcell
        have hdu := hrX.dig.getD k
        have hcell3 := ownr.cell k (by omega)
        have hfr := ownr.free k
        have HS : Hid (∀ s, s = c + X.getD k 0 + Y.getD k 0 → D.val ((L.set k (s % 256)).take (k + 1)) + (s / 256) * 256 ^ (k + 1) = D.val (X.take (k + 1)) + D.val (Y.take (k + 1))) := fun s hs => D.add_step (by omega) HI.out hs
        clear hcell
        by_cases hkv : k < Y.length
        · obtain ⟨b', off', e2, hbl2, hcell'⟩ := hrY.cell k hkv
          have hcv : wr.cell? ⟨b', off' + k, none⟩ = some (.int .u8 ((Y.getD k 0 : Nat) : Int)) := by rw [onlyr.cell (p := ⟨b', off' + k, none⟩) (show b' ≠ g by omega), b2.cell (p := ⟨b', off' + k, none⟩) hbl2]; exact hcell'
          have hdv := hrY.dig.getD k
          clear hcell'
          generalize X.getD k 0 = x at hcu hdu HS
          generalize Y.getD k 0 = y at hcv hdv HS
          have hset := ownr.setI (k := k) (by omega) ((c + x + y) % 256) (i := ((c : Int) + x + y) % 256) (by omega)
          subst e1
          subst e2
          go_wp2
          go_roundw
          case rel => exact ⟨k + 1, (c + x + y) / 256, _, by omega, by go_num, by go_num, by omega, hset, onlyr.setCell _ _, by simpa using hL, hdL.set _ (by omega), HS.out _ rfl⟩
          case measure => simp [intOf]; omega
        · have hv0 : Y.getD k 0 = 0 := by simp [List.getElem?_eq_none (show Y.length ≤ k by omega)]
          rw [hv0] at HS
          clear hv0
          generalize X.getD k 0 = x at hcu hdu HS
          have hset := ownr.setI (k := k) (by omega) ((c + x + 0) % 256) (i := ((c : Int) + x) % 256) (by omega)
          subst e1
          go_wp2
          go_roundw
          case rel => exact ⟨k + 1, (c + x + 0) / 256, _, by omega, by go_num, by go_num, by omega, hset, onlyr.setCell _ _, by simpa using hL, hdL.set _ (by omega), HS.out _ rfl⟩
          case measure => simp [intOf]; omega
      · have hkU : k = X.length := by omega
        subst hkU
        have hcell3 := ownr.cell X.length (by omega)
        have hfr := ownr.free X.length
        have hset := ownr.setI (k := X.length) (by omega) c (i := (c : Int)) rfl
        have HF : Hid (D.val (L.set X.length c) = D.val A + D.val B) := by show _ = _; rw [← HV2.out]; exact D.add_last hL (by omega) hVU HI.out
        have hds := hdL.set X.length (show c < 256 by omega)
        have hls : (L.set X.length c).length = X.length + 1 := by simpa using hL
        have htl := D.trimL_len (L.set X.length c)
        have HT : Hid (D.val (D.trimL (L.set X.length c)) = D.val A + D.val B) := by show _ = _; rw [D.trimL_val]; exact HF.out
        have hons := onlyr.setCell X.length (.int .u8 (c : Int))
        go_wp2_with (go_at_call 257; refine (clip_any _ g (X.length + 1) w1.heap.size _ hset hds hls hg (by omega)).mono ?_; rintro e w3 ⟨a', rfl, hm, hw⟩; subst hw)
        go_ret
        exact ⟨a', _, rfl, hm, HT.out, by omega, b2.trans (hons.below hg)⟩
end Go.Proofs.YgcsafGreat
