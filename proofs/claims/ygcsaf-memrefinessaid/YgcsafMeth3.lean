/-
  'Arena.Write' (60).
-/
import Derived.Test.YgcsafMeth2
namespace Go.Proofs.Ygcsaf
open Go.RowKit
set_option linter.unusedVariables false
set_option linter.unusedSimpArgs false

theorem lay_two (w : World) (g lo n k : Nat) (S : List Nat) (frm : Nat) (hk : ((S.drop frm).take n).length = k) :
    (w.setCells g lo (((S.drop frm).take n).map byteV)).setCells g (lo + k) (List.replicate (n - k) (Value.int .u8 0)) = w.setCells g lo ((writeL S frm n).map byteV) := by
  have := setCells_append w g lo (((S.drop frm).take n).map byteV) (List.replicate (n - k) (Value.int .u8 0))
  rw [List.length_map, hk] at this
  rw [this, writeL, List.map_append, hk]
  simp [byteV]

set_option maxRecDepth 100000 in
set_option maxHeartbeats 1000000 in
theorem aWrite (w : World) (B T : Nat) (bv : Value) (buf base : List Nat) (F : List (List Nat)) (h : ArF B T w bv buf base F) (off n frm gs : Nat) (S : List Nat) (ho : off < 4294967296) (hn : n < 4294967296) (hfr : frm < 4294967296) (hS : S.length = 40) (hd : D.Dig S) (os : Own w gs S) :
    Calls Safg.prog 60 #[.pointer (some ⟨T, 0, none⟩), .int .u32 (off : Int), .slice (some ⟨gs, 0, none⟩) 40 40, .int .u64 (frm : Int), .int .u32 (n : Int)] w fun e w' => e = .returned (.bool (hasF F off n)) ∧ APost B T w w' bv (putIf F off n (writeL S frm n)) := by
  obtain ⟨q, HQ⟩ : ∃ q, Hid (hasF F off n = q) := ⟨_, rfl⟩
  rw [HQ.out]
  go_enter Safg.func60, Safg.ntmps60
  go_wp2_with fail
  refine (part_both w B T bv buf base F h off n ho hn).mono ?_
  rintro e w1 ⟨s1, ⟨h1, rfl⟩ | ⟨h1, h2, ad, g, lo, rfl, sp⟩⟩
  · obtain rfl : q = false := HQ.out.symm.trans h1
    clear h1
    go_wp2
    go_ret
    exact ⟨rfl, by rw [putIf_no HQ.out]; exact h.stay s1⟩
  · obtain rfl : q = true := HQ.out.symm.trans h1
    clear h1
    have FIN : Hid (∀ (w' : World), Same (w1.setCells g lo ((writeL S frm n).map byteV)) w' → APost B T w w' bv (putIf F off n (writeL S frm n))) := by
      intro w' hs
      rw [putIf_yes HQ.out]
      exact APost.after h.ar.lt (s1.below _) (sp.put _ (writeL_length _ _ _) (writeL_dig hd _ _) _ hs)
    have hth := sp.there
    have tl := topF_len h.fok
    have o1 := s1.own os
    have hadd := sp.ad
    have hfree := sp.free
    clear sp
    obtain ⟨k, HK⟩ : ∃ k, Hid (((S.drop frm).take n).length = k) := ⟨_, rfl⟩
    have hkn : k ≤ n := by have := HK.out; simp at this; omega
    have hmin : Nat.min (40 - frm) n = k := by
      have := HK.out
      simp [hS] at this
      show min (40 - frm) n = k
      omega
    by_cases hlt : frm < 40
    · have t1 : decide ((frm : Int) < 40) = true := decide_eq_true (by omega)
      have hrd : ∀ j, j < k → ∃ b off, some (⟨gs, frm, none⟩ : Addr) = some ⟨b, off, none⟩ ∧ w1.cell? ⟨b, off + j, none⟩ = some (byteV (((S.drop frm).take n).getD j 0)) := fun j hj => by
        have hj' : frm + j < 40 := by have : k ≤ 40 - frm := by rw [← hmin]; exact Nat.min_le_left _ _
                                      omega
        refine ⟨gs, frm, rfl, ?_⟩
        rw [o1.cell (frm + j) (by omega)]
        congr 2
        simp only [List.getD_eq_getElem?_getD, List.getElem?_take, List.getElem?_drop]
        rw [if_pos (by omega)]
      have hthk : ∀ j, j < k → (w1.cell? ⟨g, lo + j, none⟩).isSome = true ∧ w1.frozen? ⟨g, lo + j, none⟩ = false := fun j hj => hth j (by omega)
      obtain ⟨m, HM⟩ : ∃ m, Hid (n - k = m) := ⟨_, rfl⟩
      by_cases h0 : n = 0
      · subst h0
        obtain rfl : k = 0 := by omega
        cases ad with
        | none =>
          go_wp2_with (first | (refine wpList_copy_mid rfl _ _ rfl none (some ⟨gs, frm, none⟩) g lo 0 0 (40 - frm) (40 - frm) 0 rfl rfl hmin (fun h => absurd h (by omega)) _ HK.out hrd hthk ?_) | (refine wpList_clear_bytes rfl _ 30 rfl Safg.underlying30 none g (lo + 0) 0 0 rfl (fun h => absurd h (by omega)) (fun j hj => absurd hj (by omega)) (fun j hj => absurd hj (by omega)) ?_))
          go_ret
          refine ⟨rfl, FIN.out _ ?_⟩
          rw [← lay_two w1 g lo 0 0 S frm HK.out]
          exact Same.refl _
        | some p =>
          go_wp2_with (first | (refine wpList_copy_mid rfl _ _ rfl (some p) (some ⟨gs, frm, none⟩) g lo 0 0 (40 - frm) (40 - frm) 0 rfl rfl hmin (fun h => absurd h (by omega)) _ HK.out hrd hthk ?_) | (refine wpList_clear_bytes rfl _ 30 rfl Safg.underlying30 _ g (lo + 0) 0 0 rfl (fun h => absurd h (by omega)) (fun j hj => absurd hj (by omega)) (fun j hj => absurd hj (by omega)) ?_))
          go_ret
          refine ⟨rfl, FIN.out _ ?_⟩
          rw [← lay_two w1 g lo 0 0 S frm HK.out]
          exact Same.refl _
      · obtain rfl := hadd (by omega)
        obtain ⟨L, HL⟩ : ∃ L, Hid ((S.drop frm).take n = L) := ⟨_, rfl⟩
        have HT := HK.out
        have hlt2 := lay_two w1 g lo n k S frm HT
        rw [HL.out] at hrd hlt2 HT
        have HLL : Hid (L.length = k) := HT
        have H2 : Hid ((w1.setCells g lo (L.map byteV)).setCells g (lo + k) (List.replicate (n - k) (Value.int .u8 0)) = w1.setCells g lo ((writeL S frm n).map byteV)) := hlt2
        have HRD : Hid (∀ j, j < k → ∃ b off, some (⟨gs, frm, none⟩ : Addr) = some ⟨b, off, none⟩ ∧ w1.cell? ⟨b, off + j, none⟩ = some (byteV (L.getD j 0))) := hrd
        have HTH : Hid (∀ j, j < k → (w1.cell? ⟨g, lo + j, none⟩).isSome = true ∧ w1.frozen? ⟨g, lo + j, none⟩ = false) := hthk
        have HC : Hid ((∀ j, j < n - k → ((w1.setCells g lo (L.map byteV)).cell? ⟨g, lo + k + j, none⟩).isSome = true) ∧ (∀ j, j < n - k → (w1.setCells g lo (L.map byteV)).frozen? ⟨g, lo + k + j, none⟩ = false)) :=
          ⟨fun j hj => World.isSome_setCells _ _ _ _ _ (by rw [Nat.add_assoc]; exact (hth (k + j) (by omega)).1), fun j hj => by rw [World.frozen?_setCells, Nat.add_assoc]; exact hfree _⟩
        clear HT hlt2 hrd hthk hth hfree HM
        have HMIN : Hid (Nat.min (40 - frm) n = k) := hmin
        clear hmin
        by_cases hkn' : k = n
        · subst hkn'
          go_wp2_with (first | (refine wpList_copy_mid rfl _ _ rfl (some ⟨g, lo, none⟩) (some ⟨gs, frm, none⟩) g lo k k (40 - frm) (40 - frm) k rfl rfl HMIN.out (fun _ => rfl) L HLL.out HRD.out HTH.out ?_) | (refine wpList_clear_bytes rfl _ 30 rfl Safg.underlying30 _ g (lo + k) 0 0 rfl (fun h => absurd h (by omega)) (fun j hj => absurd hj (by omega)) (fun j hj => absurd hj (by omega)) ?_))
          go_ret
          refine ⟨rfl, FIN.out _ ?_⟩
          rw [← H2.out, Nat.sub_self]
          exact Same.refl _
        · go_wp2_with (first | (refine wpList_copy_mid rfl _ _ rfl (some ⟨g, lo, none⟩) (some ⟨gs, frm, none⟩) g lo n n (40 - frm) (40 - frm) k rfl rfl HMIN.out (fun _ => rfl) L HLL.out HRD.out HTH.out ?_) | (refine wpList_clear_bytes rfl _ 30 rfl Safg.underlying30 _ g (lo + k) (n - k) (n - k) rfl (fun _ => rfl) HC.out.1 HC.out.2 ?_))
          go_ret
          refine ⟨rfl, FIN.out _ ?_⟩
          rw [← H2.out]
          exact Same.refl _
    · have t1 : decide ((frm : Int) < 40) = false := decide_eq_false (by omega)
      have hk0 : k = 0 := by rw [← hmin]; show min (40 - frm) n = 0; omega
      subst hk0
      have hE : (S.drop frm).take n = [] := List.eq_nil_of_length_eq_zero HK.out
      have FIN2 : Hid (∀ (w' : World), Same (w1.setCells g lo (List.replicate n (Value.int .u8 0))) w' → APost B T w w' bv (putIf F off n (writeL S frm n))) := by
        intro w' hs
        refine FIN.out w' ?_
        rw [← lay_two w1 g lo n 0 S frm HK.out, hE]
        exact hs
      by_cases h0 : n = 0
      · subst h0
        cases ad with
        | none =>
          go_wp2_with (refine wpList_clear_bytes rfl _ 30 rfl Safg.underlying30 none g lo 0 0 rfl (fun h => absurd h (by omega)) (fun j hj => absurd hj (by omega)) (fun j hj => absurd hj (by omega)) ?_)
          go_ret
          exact ⟨rfl, FIN2.out _ (Same.refl _)⟩
        | some p =>
          go_wp2_with (refine wpList_clear_bytes rfl _ 30 rfl Safg.underlying30 _ g lo 0 0 rfl (fun h => absurd h (by omega)) (fun j hj => absurd hj (by omega)) (fun j hj => absurd hj (by omega)) ?_)
          go_ret
          exact ⟨rfl, FIN2.out _ (Same.refl _)⟩
      · obtain rfl := hadd (by omega)
        go_wp2_with (refine wpList_clear_bytes rfl _ 30 rfl Safg.underlying30 _ g lo n n rfl (fun _ => rfl) (fun j hj => (hth j hj).1) (fun j hj => hfree j) ?_)
        go_ret
        exact ⟨rfl, FIN2.out _ (Same.refl _)⟩
end Go.Proofs.Ygcsaf
