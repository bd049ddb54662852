/-
  The model's 'put' (96).
-/
import Derived.Test.YgcsafMod3
namespace Go.Proofs.Ygcsaf
open Go.RowKit
set_option linter.unusedVariables false
set_option linter.unusedSimpArgs false

theorem MPost.of_same {B T : Nat} {w w1 w2 : World} {col : Nat → Nat} {F : List (List Nat)} (hT : T < w.heap.size) (h : MPost B T w w1 col F) (s : Same w1 w2) : MPost B T w w2 col F := h.then_below hT (s.below _)

theorem setCells_snoc (w : World) (g o : Nat) (xs : List Value) (v : Value) : (w.setCells g o xs).setCell ⟨g, o + xs.length, none⟩ v = w.setCells g o (xs ++ [v]) := by
  rw [← setCells_append]; rfl

set_option maxRecDepth 100000 in
set_option maxHeartbeats 4000000 in
theorem mPut (w : World) (B T : Nat) (col : Nat → Nat) (fv : Value) (fvs : List Value) (F : List (List Nat)) (h : Md B T w col fv fvs F) (hF : FOk F) (off n cp : Nat) (l : List Nat) (ga : Option Addr) (ho : off < 4294967296) (hn : n < 4294967296) (hcp : n ≤ cp) (hcm : cp ≤ maxLen) (hrd : Rd w ga n l)
    (hsep : ∀ (a : Addr), ga = some a → ∀ (i : Nat) (v : Value), fvs[i]? = some v → v.ownBlock ≠ some a.block) :
    Calls Safg.prog 96 #[.pointer (some ⟨T, 10, none⟩), .int .u32 (off : Int), .slice ga n cp] w fun e w' => e = .returned (.bool (hasF F off n)) ∧ MPost B T w w' col (putIf F off n l) := by
  have HH := mHas w B T col fv fvs F h hF off n ho hn
  obtain ⟨q, HQ⟩ : ∃ q, Hid (hasF F off n = q) := ⟨_, rfl⟩
  rw [HQ.out] at HH
  rw [HQ.out]
  have hml : maxLen = 9223372036854775807 := rfl
  cases q with
  | false =>
    rw [putIf_no HQ.out]
    go_enter Safg.func96, Safg.ntmps96
    go_wp2_with (go_at_call 97; refine HH.mono ?_; rintro e w1 ⟨rfl, s1⟩)
    go_ret
    exact ⟨rfl, h.stay s1⟩
  | true =>
    obtain ⟨G, t, rfl, hle⟩ := hasF_true HQ.out
    have hll := hrd.length
    have tl := hF.low t (by simp)
    have h' := fun (w1 : World) (s : Same w w1) => (h.same s).top
    go_enter Safg.func96, Safg.ntmps96
    go_upto_region 4 with (go_at_call 97; refine HH.mono ?_; rintro e w1 ⟨rfl, s1⟩)
    obtain ⟨gf, cap, ta, tc, gt, m⟩ := h' w1 s1
    clear h' HH
    have hta := m.ta
    have HTA : Hid (0 < t.length → ta = some ⟨gt, 0, none⟩) := hta
    have hsz : w1.heap.size = w.heap.size := by rw [s1.heap]
    have c10 := m.c10
    have ck := m.ck
    have rd1 := s1.rd hrd
    -- the source's block is not the frame's
    have hsrc : ∀ b o', ga = some ⟨b, o', none⟩ → 0 < t.length → b ≠ gt := by
      intro b o' e hp eb
      have hlen := h.len
      have hk : G.length < fvs.length := by rw [hlen]; simp
      have hv : fvs[G.length]? = some fvs[G.length] := List.getElem?_eq_getElem hk
      refine hsep _ e G.length _ hv ?_
      -- the frame's value
      have hm := h.same s1
      rcases hm.vec with ⟨_, e0⟩ | ⟨gf', cap', e1, _, r', _⟩
      · rw [e0] at hk; exact absurd hk (by simp)
      · have c10' := hm.c10
        rw [e1, m.c10] at c10'
        have e2 := Option.some.inj c10'
        simp at e2
        obtain ⟨rfl, _, _⟩ := e2
        have := r'.get hk
        rw [m.ck] at this
        rw [← Option.some.inj this, m.ta hp, eb]
        rfl
    have hrow := m.row
    have hput := m.put
    have hneT := m.neT
    have hnef := m.nef
    have FIN : Hid (∀ w', Same (w1.setCells gt off (l.map byteV)) w' → MPost B T w w' col (putIf (G ++ [t]) off n l)) := by
      intro w' hs
      rw [putIf_yes HQ.out, topF_app]
      have hd : (G ++ [t]).dropLast = G := by simp
      rw [hd]
      by_cases hp : 0 < t.length
      · have r2 := (hrow hp).lay off (l.map byteV) (by rw [List.length_map]; omega) (by rw [List.length_map]; have := (hrow hp).le; rw [List.length_map] at this; omega)
        rw [layL_map] at r2
        have only := Only.setCells (g := gt) (l.map byteV) (a := w1) (w := w1) off (Only.refl gt w1)
        have := hput (layL t off l) (layL_length (by omega)) hp _ only r2
        exact (MPost.of_same (by rw [hsz]; exact h.lt) this hs).after h.lt (s1.below _)
      · have h0 : l = [] := List.eq_nil_of_length_eq_zero (by omega)
        subst h0
        rw [layL_nil]
        exact h.stay (s1.trans hs)
    have hgl : G.length ≤ 6 := by have := hF.few; simp at this; omega
    have hle1 := m.le
    have hcl := m.capl
    have htl := m.tle
    have htc := m.tcl
    have HROW : Hid (0 < t.length → RowV w1 gt tc (t.map byteV)) := hrow
    have HNE : Hid (0 < t.length → gt ≠ T ∧ gt ≠ gf) := fun hp => ⟨hneT hp, hnef hp⟩
    have HSRC : Hid (∀ b o', ga = some ⟨b, o', none⟩ → 0 < t.length → b ≠ gt) := hsrc
    clear m hrow hput hneT hnef hta hsrc hsep
    generalize G.length = K at *
    go_loopw [18] (fun i wr => ∃ (k : Nat), k ≤ n ∧ i = .int .i64 k ∧ Same (w1.setCells gt off ((l.take k).map byteV)) wr) (fun i _ => n - (intOf i).toNat)
    case atStart => exact ⟨0, Nat.zero_le _, rfl, Same.refl _⟩
    case round =>
      obtain ⟨k, hk, rfl, hs⟩ := hrel
      have HS : Hid (Same (w1.setCells gt off ((l.take k).map byteV)) wr) := hs
      by_cases hlt : k < n
      · have hp : 0 < t.length := by omega
        have hta := HTA.out hp
        subst hta
        have only := Only.setCells (g := gt) ((l.take k).map byteV) (a := w1) (w := w1) off (Only.refl gt w1)
        have c10r := (hs.cell _).trans ((only.cell (p := ⟨T, 10, none⟩) (HNE.out hp).1.symm).trans c10)
        have ckr := (hs.cell _).trans ((only.cell (p := ⟨gf, K, none⟩) (HNE.out hp).2.symm).trans ck)
        obtain ⟨b, o', rfl, hb, hc⟩ := rd1.cell k hlt
        have cb := (hs.cell _).trans ((only.cell (p := ⟨b, o' + k, none⟩) (HSRC.out b o' rfl hp)).trans hc)
        have hrow := HROW.out hp
        obtain ⟨u, cu⟩ : ∃ u, wr.cell? ⟨gt, off + k, none⟩ = some u := by
          rw [hs.cell]
          exact Option.isSome_iff_exists.1 (World.isSome_setCells _ _ _ _ _ (hrow.room _ (by omega)))
        have fu : wr.frozen? ⟨gt, off + k, none⟩ = false := by rw [hs.frozen, World.frozen?_setCells]; exact hrow.free _
        have HNX : Hid (Same (w1.setCells gt off ((l.take (k + 1)).map byteV)) (wr.setCell ⟨gt, off + k, none⟩ (.int .u8 ((l.getD k 0 : Nat) : Int)))) := by
          have e1 : (l.take (k + 1)).map byteV = (l.take k).map byteV ++ [byteV (l.getD k 0)] := by
            rw [List.take_add_one, List.map_append, List.getD_eq_getElem?_getD, List.getElem?_eq_getElem (by omega)]
            rfl
          have e2 : ((l.take k).map byteV).length = k := by simp; omega
          have := (hs.setCell ⟨gt, off + k, none⟩ (byteV (l.getD k 0)))
          show Same _ _
          rw [e1, ← setCells_snoc, e2]
          exact this
        have hdg := rd1.dig.getD k
        generalize l.getD k 0 = x at *
        clear hs hc only c10 ck hrow
        go_upto_region 6 with fail
        go_region
        go_wp2
        go_roundw
        case rel => exact ⟨k + 1, by omega, by go_num, HNX.out.trans (Same.drew _)⟩
        case measure => simp [intOf]; omega
      · have hk' : k = n := by omega
        subst hk'
        clear hs c10 ck
        go_wp2
        go_ret
        refine ⟨rfl, FIN.out _ ?_⟩
        have := HS.out
        rw [D.take_all (by omega)] at this
        exact this
end Go.Proofs.Ygcsaf
