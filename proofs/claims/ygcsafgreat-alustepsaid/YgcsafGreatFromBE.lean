import Derived.Test.YgcsafGreatTrim
namespace Go.Proofs.YgcsafGreat
open Go.RowKit
set_option linter.unusedVariables false
set_option linter.unusedSimpArgs false

/-- A number that a call has made: normal, with no room to spare; zero is nil. -/
structure IsNat (w : World) (a : Option Addr) (l : List Nat) : Prop where
  rd : Rd w a l.length l
  nm : D.Nm l
  nil : l = [] → a = none

set_option maxHeartbeats 400000 in
theorem fromBE_any (w : World) (a : Option Addr) (len cap : Nat) (l : List Nat) (h : Rd w a len l) (hc : len ≤ cap) (hm : cap ≤ 281474976710656) :
    Calls Safg.prog 33 #[.slice a len cap] w fun e w' => ∃ a', e = .returned (.slice a' (D.trimL l.reverse).length (D.trimL l.reverse).length) ∧ IsNat w' a' (D.trimL l.reverse) ∧ Below w.heap.size w w' := by
  have hl := h.length
  go_enter Safg.func33, Safg.ntmps33
  go_wp2
  go_loop [3] (fun k => ∃ n : Nat, n ≤ len ∧ k = .int .i64 n ∧ ∀ j, j < n → l.getD j 0 = 0) (fun k => len - (intOf k).toNat)
  case atStart => exact ⟨0, Nat.zero_le _, rfl, fun j h1 => absurd h1 (by omega)⟩
  case round =>
    obtain ⟨n, hn, rfl, hz⟩ := hrel
    have HZ : Hid (∀ j, j < n → l.getD j 0 = 0) := hz
    clear hz
    by_cases h0 : n < len
    · obtain ⟨b, off, rfl, hb, hcell⟩ := h.cell n h0
      by_cases hd : l.getD n 0 = 0
      · rw [hd] at hcell
        go_wp2
        go_round
        case rel => 
          refine ⟨n + 1, by omega, by go_num, fun j h1 => ?_⟩
          by_cases hj : j = n
          · rw [hj]; exact hd
          · exact HZ.out j (by omega)
        case measure => simp [intOf]; omega
      · have HD : Hid (l.getD n 0 ≠ 0) := hd
        generalize hx : l.getD n 0 = x at hcell hd
        clear hx
        have hd' : (((x : Nat) : Int) == 0) = false := by simpa using hd
        go_wp2_with (at_make; refine wpList_make_bytes _ rfl _ _ 98 rfl Safg.underlying98 .i64 .i64 _ _ (len - n) rfl rfl (by omega) (by omega) (by omega) ?_)
        intro w1 g hg hown hbel
        go_wp2
        go_loopw [30] (fun i wr => ∃ (k : Nat) (L : List Nat), k ≤ len - n ∧ i = .int .i64 k ∧ Own wr g L ∧ Below w.heap.size w wr ∧ L.length = len - n ∧ D.Dig L ∧ ∀ j, j < k → L.getD j 0 = l.getD (len - 1 - j) 0) (fun i _ => len - (intOf i).toNat)
        case atStart => exact ⟨0, _, Nat.zero_le _, rfl, hown, hbel, by simp, D.Dig.replicate _, fun j hj => absurd hj (by omega)⟩
        case round =>
          obtain ⟨k, L, hk, rfl, hownr, hbelr, hL, hdL, hj⟩ := hrel
          have HJ : Hid (∀ j, j < k → L.getD j 0 = l.getD (len - 1 - j) 0) := hj
          clear hj
          by_cases hlt : k < len - n
          · obtain ⟨b', off', e', hb', hcell'⟩ := h.cell (len - 1 - k) (by omega)
            injection e' with e'; injection e' with e1 e2; subst e1 e2
            have hcell2 : wr.cell? ⟨b, off + (len - 1 - k), none⟩ = some (.int .u8 ((l.getD (len - 1 - k) 0 : Nat) : Int)) := by
              rw [hbelr.cell (p := ⟨b, off + (len - 1 - k), none⟩) hb']; exact hcell'
            have hcell3 := hownr.cell k (by omega)
            have hfr := hownr.free k
            have hset := hownr.set (k := k) (by omega) (l.getD (len - 1 - k) 0)
            have hdg := h.dig.getD (len - 1 - k)
            clear hcell' hcell
            go_wp2
            go_roundw
            case rel =>
              refine ⟨k + 1, _, by omega, by go_num, hset, hbelr.setCell hg _, by simpa using hL, hdL.set _ hdg, fun j hj => ?_⟩
              rw [D.getD_set (by omega)]
              split
              · rename_i e; rw [e]
              · exact HJ.out j (by omega)
            case measure => simp [intOf]; omega
          · have hkn : k = len - n := by omega
            have HE : Hid (L = D.trimL l.reverse) := D.lead_eq (l := l) (n := n) (by omega) HZ.out (.inr HD.out) (by omega) (fun j hj => by rw [HJ.out j (by omega), hl])
            have hlen : (D.trimL l.reverse).length = len - n := by rw [← HE.out]; exact hL
            have HL : Hid ((D.trimL l.reverse).length = len - n) := hlen
            clear hlen
            have hrd := hownr.rd hdL
            have hfin : IsNat wr (some ⟨g, 0, none⟩) L := ⟨hrd, by rw [HE.out]; exact D.trimL_nm _, fun hh => by rw [hh] at hL; simp at hL; omega⟩
            clear hrd hcell
            go_wp2
            go_ret
            refine ⟨some ⟨g, 0, none⟩, ret_slice HL.out.symm HL.out.symm, by rw [← HE.out]; exact hfin, hbelr⟩
    · have hnl : n = len := by omega
      have e := D.lead_len (l := l) (n := n) (by omega) HZ.out (.inl (by omega))
      have E2 : Hid (D.trimL l.reverse = []) := List.length_eq_zero_iff.1 (by omega)
      clear e
      subst hnl
      go_wp2
      go_ret
      rw [E2.out]
      exact ⟨none, rfl, ⟨Rd.nil _ _, D.Nm.nil, fun _ => rfl⟩, Below.refl _ _⟩
end Go.Proofs.YgcsafGreat
