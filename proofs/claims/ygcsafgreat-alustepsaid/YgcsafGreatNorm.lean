/-
  Norm, equalBytes: the copy; two slices of bytes compared as strings.
-/
import Derived.Test.YgcsafGreatFromBE
import Derived.Test.YgcsafGreatArr
import Derived.Deep.Cut
import Derived.Laws.CopyOwn
namespace Go.Proofs.YgcsafGreat
open Go.RowKit
set_option linter.unusedVariables false
set_option linter.unusedSimpArgs false

/-- A number that the call has made: its digits lie at the head of a row of the call's own (blocks from B on). -/
structure Made (B : Nat) (w : World) (a : Option Addr) (l : List Nat) : Prop where
  nat : IsNat w a l
  own : l ≠ [] → ∃ g, a = some ⟨g, 0, none⟩ ∧ B ≤ g ∧ Own w g l

theorem Own.take {w : World} {g : Nat} {L : List Nat} (h : Own w g L) (k : Nat) : Own w g (L.take k) := by
  refine ⟨h.lt, fun j hj => ?_, h.free⟩
  have h1 : j < k := by simp at hj; omega
  have h2 : j < L.length := by simp at hj; omega
  rw [h.cell j h2]
  simp [h1]

theorem Own.trim {w : World} {g : Nat} {L : List Nat} (h : Own w g L) : Own w g (D.trimL L) := by
  have := h.take (D.trimL L).length
  rwa [D.trimL_take] at this

theorem Made.nil (B : Nat) (w : World) : Made B w none [] := ⟨⟨Rd.nil _ _, D.Nm.nil, fun _ => rfl⟩, fun h => absurd rfl h⟩
theorem Made.of_own {B : Nat} {w : World} {g : Nat} {L : List Nat} (h : Own w g L) (hd : D.Dig L) (hn : D.Nm L) (hne : L ≠ []) (hB : B ≤ g) : Made B w (some ⟨g, 0, none⟩) L :=
  ⟨⟨h.rd hd, hn, fun e => absurd e hne⟩, fun _ => ⟨g, rfl, hB, h⟩⟩
theorem IsNat.below {w w' : World} {a : Option Addr} {l : List Nat} (h : IsNat w a l) (hb : Below w.heap.size w w') : IsNat w' a l := ⟨h.rd.below hb, h.nm, h.nil⟩
theorem Made.mono {B B' : Nat} {w : World} {a : Option Addr} {l : List Nat} (h : Made B w a l) (hB : B' ≤ B) : Made B' w a l :=
  ⟨h.nat, fun hne => by obtain ⟨g, e, h1, h2⟩ := h.own hne; exact ⟨g, e, by omega, h2⟩⟩

theorem Safg.size5 : (Safg.prog.info? 5).map (·.size) = some 1 := by kernel_rfl

/-- 'copy(out, n)' where out is a row of the call's own, as long as n. -/
theorem wpList_copy_bytes {w : World} {ops : Array Oper} {rest : List Oper} {o : Oper} {a : Act} {Q : Exit → Act → World → Prop} (hgd : o.guard = none) (d s : Operand) (dT sT : TypeId)
    (ho : o.op = .call { callee := .builtin .copy, args := #[d, s], argTypes := #[dT, sT] }) (hu : Safg.prog.underlying dT = some (.slice 5))
    (g n dCap sCap : Nat) (sp : Option Addr) (hd : a.eval d = .slice (some ⟨g, 0, none⟩) n dCap) (hs : a.eval s = .slice sp n sCap)
    (L l : List Nat) (hL : L.length = n) (hown : Own w g L) (hrd : Rd w sp n l) (hpos : 0 < n)
    (hK : ∀ w', Own w' g l → Only g w w' → wpList Safg.prog ops Q rest (a.put o.dst (goInt n)) w') :
    wpList Safg.prog ops Q (o :: rest) a w := by
  refine wpList_plain hgd fun K hK' => ?_
  obtain ⟨b, off, rfl, hb, _⟩ := hrd.cell 0 hpos
  have hll := hrd.length
  have hrun := run_copy_cells (P := Safg.prog) w dT sT o.type 5 g 0 n dCap ⟨b, off, none⟩ n sCap (cellsL l) hu Safg.size5 (by rw [cellsL_length, hll]; exact (Nat.min_self n).symm)
    (fun j v hv => by
      obtain ⟨hj, rfl⟩ := cellsL_get l j v hv
      obtain ⟨b', off', e, _, hc⟩ := hrd.cell j (by omega)
      have e' : (⟨b, off, none⟩ : Addr) = ⟨b', off', none⟩ := Option.some.inj e
      rw [e', Addr.add_mid]; exact hc)
    (fun j hj => by rw [cellsL_length] at hj; rw [Nat.zero_add, hown.cell j (by omega)]; rfl)
    (fun j hj => by rw [Nat.zero_add]; exact hown.free j)
    (cellsL_one l)
  rw [cellsL_length, hll] at hrun
  unfold Oper.wp
  simp [execOp, ho, resolve, invoke, builtin, hd, hs, hrun, Result.andThen]
  exact hK' _ _ (hK _ (hown.store (by omega)) (Only.setCells _ 0 (Only.refl _ _)))

set_option maxHeartbeats 400000 in
theorem norm_any (w : World) (a : Option Addr) (len cap : Nat) (l : List Nat) (h : Rd w a len l) (hc : len ≤ cap) (hm : cap ≤ 281474976710656) :
    Calls Safg.prog 256 #[.slice a len cap] w fun e w' => ∃ a', e = .returned (.slice a' (D.trimL l).length (D.trimL l).length) ∧ Made w.heap.size w' a' (D.trimL l) ∧ Below w.heap.size w w' := by
  have hl := h.length
  have htl := D.trimL_len l
  have hrd := h.trim
  have hnm := D.trimL_nm l
  go_enter Safg.func256, Safg.ntmps256
  go_upto_region 2 with (go_at_call 96; refine (trim_any _ _ _ _ l h hc (by omega)).mono ?_; rintro e w' ⟨rfl, hw⟩; subst hw)
  generalize hT : D.trimL l = T at *
  have HT : Hid (D.trimL l = T) := hT
  clear hT
  by_cases h0 : T.length = 0
  · have hT0 : T = [] := List.length_eq_zero_iff.1 h0
    subst hT0
    go_wp2
    go_ret
    exact ⟨none, by rw [HT.out]; rfl, by rw [HT.out]; exact Made.nil _ _, Below.refl _ _⟩
  · have h0' : (((T.length : Nat) : Int) == 0) = false := by simpa using h0
    go_wp2_with (first | (refine wpList_make_bytes _ rfl _ _ 98 rfl Safg.underlying98 .i64 .i64 _ _ T.length rfl rfl rfl rfl (by omega) ?_; intro w1 g hg o1 b1) | (refine wpList_copy_bytes rfl _ _ 98 98 rfl Safg.underlying98 g T.length _ _ _ rfl rfl _ T (by simp) o1 (hrd.below b1) (by omega) ?_; intro w2 o2 b2))
    go_ret
    refine ⟨some ⟨g, 0, none⟩, by rw [HT.out]; rfl, ?_, b1.trans (b2.below hg)⟩
    rw [HT.out]
    exact Made.of_own o2 hrd.dig hnm (fun e => h0 (by rw [e]; rfl)) hg

/-- The bytes as a string. -/
def strL (l : List Nat) : ByteArray := l.foldl (fun r n => r.push (UInt8.ofNat n)) ByteArray.empty

theorem run_string_bytes (w : World) (a : Option Addr) (len cap : Nat) (l : List Nat) (h : Rd w a len l) : (convert 26 9 (.slice a len cap)).run Safg.prog w = .ok (.string (strL l)) w := by
  rw [run_convert_bytes_string w 26 9 5 a len cap Safg.underlying26 Safg.underlying5 Safg.underlying9]
  cases a with
  | none =>
    have hl : l = [] := by
      cases l with
      | nil => rfl
      | cons d l =>
        have := h.length
        obtain ⟨b, off, e, _⟩ := h.cell 0 (by simp at this; omega)
        cases e
    subst hl
    rfl
  | some x =>
    have hl := h.length
    have := run_bytesToString (P := Safg.prog) w x len cap (l.map fun d => ((d : Nat) : Int)) ?_
    · rw [this]
      unfold strL
      rw [List.foldl_map]
      simp
    · rw [← hl]
      have := run_loadCells_list (P := Safg.prog) w x (cellsL l) (fun j v hv => by
        obtain ⟨hj, rfl⟩ := cellsL_get l j v hv
        obtain ⟨b', off', e, _, hc⟩ := h.cell j (by omega)
        injection e with e; subst e
        rw [Addr.add_mid]; exact hc)
      rw [cellsL_length] at this
      rw [this]
      simp [cellsL]

theorem strL_inj {A B : List Nat} (ha : D.Dig A) (hb : D.Dig B) : ((strL A).toList == (strL B).toList) = decide (A = B) := by
  have key : ∀ (l : List Nat) (r : ByteArray), (l.foldl (fun r n => r.push (UInt8.ofNat n)) r).data.toList = r.data.toList ++ l.map UInt8.ofNat := by
    intro l
    induction l with
    | nil => intro r; simp
    | cons d l ih => intro r; simp [ih]
  rw [← bytes_beq ha hb, ByteArray.toList_eq, ByteArray.toList_eq]
  have e1 := key A ByteArray.empty
  have e2 := key B ByteArray.empty
  unfold strL
  rw [e1, e2]
  simp

set_option maxHeartbeats 400000 in
theorem equalBytes_any (w : World) (a b : Option Addr) (la ca lb cb : Nat) (A B : List Nat) (ha : Rd w a la A) (hb : Rd w b lb B) :
    Calls Safg.prog 113 #[.slice a la ca, .slice b lb cb] w fun e w' => e = .returned (.bool (decide (A = B))) ∧ w' = w := by
  have r1 := run_string_bytes w a la ca A ha
  have r2 := run_string_bytes w b lb cb B hb
  have r3 := strL_inj ha.dig hb.dig
  generalize decide (A = B) = r at *
  generalize strL A = sa at *
  generalize strL B = sb at *
  go_enter Safg.func113, Safg.ntmps113
  go_wp2
  go_ret
  exact ⟨ret_bool (by simp), rfl⟩
end Go.Proofs.YgcsafGreat
