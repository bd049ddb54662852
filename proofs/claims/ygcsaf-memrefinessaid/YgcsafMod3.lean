/-
  The model's 'Read' (73).
-/
import Derived.Test.YgcsafMod2
namespace Go.Proofs.Ygcsaf
open Go.RowKit
set_option linter.unusedVariables false
set_option linter.unusedSimpArgs false

theorem ext_getD {A B : List Nat} (h : A.length = B.length) (he : ∀ j, j < A.length → A.getD j 0 = B.getD j 0) : A = B := by
  apply List.ext_getElem h
  intro j h1 h2
  have := he j h1
  rw [List.getD_eq_getElem?_getD, List.getD_eq_getElem?_getD, List.getElem?_eq_getElem h1, List.getElem?_eq_getElem h2] at this
  simpa using this

set_option maxRecDepth 100000 in
set_option maxHeartbeats 4000000 in
theorem mRead (w : World) (B T : Nat) (col : Nat → Nat) (fv : Value) (fvs : List Value) (F : List (List Nat)) (h : Md B T w col fv fvs F) (hF : FOk F) (off n : Nat) (ho : off < 4294967296) (hn : n < 4294967296) :
    Calls Safg.prog 73 #[.pointer (some ⟨T, 10, none⟩), .int .u32 (off : Int), .int .u32 (n : Int)] w fun e w' => RPost w w' e (readF F off n) := by
  have HH := mHas w B T col fv fvs F h hF off n ho hn
  obtain ⟨q, HQ⟩ : ∃ q, Hid (hasF F off n = q) := ⟨_, rfl⟩
  rw [HQ.out] at HH
  obtain ⟨r, HR⟩ : ∃ r, Hid (readF F off n = r) := ⟨_, rfl⟩
  rw [HR.out]
  cases q with
  | false =>
    have HE : Hid (r = []) := by
      show _ = _
      rw [← HR.out]
      unfold readF; rw [if_neg (by rw [HQ.out]; simp)]
    go_enter Safg.func73, Safg.ntmps73
    go_wp2_with (go_at_call 97; refine HH.mono ?_; rintro e w1 ⟨rfl, s1⟩)
    go_ret
    rw [HE.out]
    exact ⟨none, rfl, fun _ => rfl, fun h => absurd rfl h, s1.below _⟩
  | true =>
    obtain ⟨G, t, rfl, hle⟩ := hasF_true HQ.out
    have hr : r = subL t off n := by
      rw [← HR.out]
      unfold readF; rw [if_pos HQ.out, topF_app]
    have HE : Hid (r = subL t off n) := hr
    clear hr
    have hsl := subL_length hle
    have tl := hF.low t (by simp)
    by_cases h0 : n = 0
    · subst h0
      go_enter Safg.func73, Safg.ntmps73
      go_wp2_with (go_at_call 97; refine HH.mono ?_; rintro e w1 ⟨rfl, s1⟩)
      go_ret
      have : subL t off 0 = [] := List.eq_nil_of_length_eq_zero hsl
      rw [HE.out, this]
      exact ⟨none, rfl, fun _ => rfl, fun h => absurd rfl h, s1.below _⟩
    · have h0' : ((n : Int) == 0) = false := by simpa using h0
      have h' := fun (w1 : World) (s : Same w w1) => (h.same s).top
      go_enter Safg.func73, Safg.ntmps73
      go_upto_region 5 with (first | (go_at_call 97; refine HH.mono ?_; rintro e w1 ⟨rfl, s1⟩) | (refine wpList_make_bytes _ rfl _ _ 30 rfl Safg.underlying30 .u32 .u32 _ _ n rfl rfl rfl rfl (by omega) ?_; intro w2 g hg o2 b2))
      obtain ⟨gf, cap, ta, tc, gt, m⟩ := h' w1 s1
      clear h' HH h0'
      have hta := m.ta (by omega)
      subst hta
      have row := m.row (by omega)
      have hTl := h.lt
      have hsz : w1.heap.size = w.heap.size := by rw [s1.heap]
      have c10 := (b2.cell (p := ⟨T, 10, none⟩) (by show T < _; omega)).trans m.c10
      have ck := (b2.cell (p := ⟨gf, G.length, none⟩) m.ltf).trans m.ck
      have cells : ∀ j, j < t.length → w2.cell? ⟨gt, j, none⟩ = some (byteV (t.getD j 0)) := fun j hj => (b2.cell (p := ⟨gt, j, none⟩) row.lt).trans (row.byte hj)
      have hne1 : T ≠ g := by omega
      have hne2 : gf ≠ g := by have := m.ltf; omega
      have hne3 : gt ≠ g := by have := row.lt; omega
      have hle1 := m.le
      have hcl := m.capl
      have htl := m.tle
      have htc := m.tcl
      have hml : maxLen = 9223372036854775807 := rfl
      have BB : Hid (Below w.heap.size w w2) := by
        show Below w.heap.size w w2
        exact (s1.below _).trans (b2.mono (by omega))
      clear m row
      have hgl : G.length ≤ 6 := by have := hF.few; simp at this; omega
      generalize G.length = K at *
      generalize hq : t.length = tl' at *
      clear hq
      go_loopw [22] (fun i wr => ∃ (k : Nat) (L : List Nat), k ≤ n ∧ i = .int .i64 k ∧ Own wr g L ∧ Only g w2 wr ∧ L.length = n ∧ (∀ j, j < k → L.getD j 0 = t.getD (off + j) 0)) (fun i _ => n - (intOf i).toNat)
      case atStart => exact ⟨0, _, Nat.zero_le _, rfl, o2, Only.refl _ _, by simp, fun j hj => absurd hj (by omega)⟩
      case round =>
        obtain ⟨k, L, hk, rfl, ownr, onlyr, hL, hj⟩ := hrel
        have HJ : Hid (∀ j, j < k → L.getD j 0 = t.getD (off + j) 0) := hj
        clear hj
        by_cases hlt : k < n
        · have hc := ownr.cell k (by omega)
          have hfr := ownr.free k
          have c10r := (onlyr.cell (p := ⟨T, 10, none⟩) hne1).trans c10
          have ckr := (onlyr.cell (p := ⟨gf, K, none⟩) hne2).trans ck
          have cr := (onlyr.cell (p := ⟨gt, off + k, none⟩) hne3).trans (cells (off + k) (by omega))
          unfold byteV at cr
          have hset := ownr.set (k := k) (by omega) (t.getD (off + k) 0)
          generalize hx : t.getD (off + k) 0 = x at *
          have HX : Hid (t.getD (off + k) 0 = x) := hx
          clear hx c10 ck cells
          go_upto_region 7 with fail
          go_region
          go_wp2
          go_roundw
          case rel =>
            refine ⟨k + 1, _, by omega, by go_num, hset.drew, ?_, by simpa using hL, fun j hj => ?_⟩
            · exact (onlyr.setCell _ _).trans ((Same.drew _).only g)
            rw [D.getD_set (by omega)]
            by_cases e : j = k
            · rw [if_pos e, e, HX.out]
            · rw [if_neg e]; exact HJ.out j (by omega)
          case measure => simp [intOf]; omega
        · have hk' : k = n := by omega
          subst hk'
          have hLe : L = subL t off k := ext_getD (by rw [hsl, hL]) (fun j hj => by rw [HJ.out j (by omega), subL_get (by omega)])
          have HLe : Hid (L = subL t off k) := hLe
          clear hLe c10 ck cells
          go_wp2
          go_ret
          refine ⟨some ⟨g, 0, none⟩, by rw [HE.out, hsl]; rfl, fun h => ?_, fun _ => ⟨g, by omega, rfl, by rw [HE.out, ← HLe.out]; exact ownr⟩, BB.out.trans (onlyr.below (by omega))⟩
          exfalso
          rw [HE.out] at h
          rw [h] at hsl
          simp at hsl
          omega
end Go.Proofs.Ygcsaf
