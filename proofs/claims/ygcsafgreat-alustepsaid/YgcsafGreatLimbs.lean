/-
  ROWS OF LIMBS: blocks of uint64, windows on them and what they are worth.
-/
import Derived.Test.YgcsafGreatTrial2
namespace Go.Proofs.YgcsafGreat
open Go.RowKit
set_option linter.unusedVariables false
set_option linter.unusedSimpArgs false

structure OwnU (w : World) (g : Nat) (L : List Nat) : Prop where
  lt : g < w.heap.size
  cell : ∀ j, j < L.length → w.cell? ⟨g, j, none⟩ = some (.int .u64 ((L.getD j 0 : Nat) : Int))
  free : ∀ o, w.frozen? ⟨g, o, none⟩ = false

def cellsU (L : List Nat) : List Value := L.map fun d => Value.int .u64 ((d : Nat) : Int)
theorem cellsU_length (L : List Nat) : (cellsU L).length = L.length := by simp [cellsU]
theorem cellsU_get (L : List Nat) (j : Nat) (v : Value) (h : (cellsU L)[j]? = some v) : j < L.length ∧ v = .int .u64 ((L.getD j 0 : Nat) : Int) := by
  simp only [cellsU, List.getElem?_map, Option.map_eq_some_iff] at h
  obtain ⟨d, hd, rfl⟩ := h
  obtain ⟨hj, e⟩ := List.getElem?_eq_some_iff.1 hd
  exact ⟨hj, by simp [hj, e]⟩
theorem cellsU_one (L : List Nat) : ∀ v ∈ cellsU L, v.oneCell' = true := by
  intro v hv
  simp only [cellsU, List.mem_map] at hv
  obtain ⟨d, _, rfl⟩ := hv
  rfl
theorem Wd4.cellsU (a : Wd4) : a.cells = YgcsafGreat.cellsU [a.x0, a.x1, a.x2, a.x3] := rfl

theorem Blk.ownU {w : World} {g : Nat} {L : List Nat} (h : Blk w g (cellsU L)) : OwnU w g L :=
  ⟨h.lt, fun j hj => by
    have hj' : j < (cellsU L).length := by rw [cellsU_length]; exact hj
    rw [h.get (List.getElem?_eq_getElem hj'), (cellsU_get L j _ (List.getElem?_eq_getElem hj')).2], h.free⟩
theorem OwnU.blk {w : World} {g : Nat} {L : List Nat} (h : OwnU w g L) : Blk w g (cellsU L) :=
  ⟨h.lt, fun j v hv => by
    obtain ⟨hj, rfl⟩ := cellsU_get L j v hv
    rw [Nat.zero_add]; exact h.cell j hj, h.free⟩

namespace OwnU
theorem below {w w' : World} {g : Nat} {L : List Nat} (h : OwnU w g L) {B : Nat} (hb : Below B w w') (hg : g < B) : OwnU w' g L :=
  ⟨Nat.lt_of_lt_of_le h.lt hb.size, fun j hj => by rw [hb.cell (p := ⟨g, j, none⟩) hg]; exact h.cell j hj, fun o => by rw [hb.frozen (p := ⟨g, o, none⟩) hg]; exact h.free o⟩
theorem only {g g' : Nat} {w w' : World} {L : List Nat} (ho : OwnU w g' L) (h : Only g w w') (hne : g' ≠ g) : OwnU w' g' L :=
  ⟨by rw [h.size]; exact ho.lt, fun j hj => by rw [h.cell (p := ⟨g', j, none⟩) hne]; exact ho.cell j hj, fun o => by rw [h.frozen (p := ⟨g', o, none⟩) hne]; exact ho.free o⟩
theorem same {w w' : World} {g : Nat} {L : List Nat} (h : OwnU w g L) (s : Same w w') : OwnU w' g L := (s.blk h.blk).ownU
theorem set {w : World} {g : Nat} {L : List Nat} (h : OwnU w g L) {k : Nat} (hk : k < L.length) (v : Nat) : OwnU (w.setCell ⟨g, k, none⟩ (.int .u64 (v : Int))) g (L.set k v) := by
  have := h.blk.set (k := k) (by rw [cellsU_length]; exact hk) (.int .u64 (v : Int))
  have e : (cellsU L).set k (.int .u64 (v : Int)) = cellsU (L.set k v) := by simp [cellsU, List.map_set]
  rw [e] at this
  exact this.ownU
end OwnU

/-- Limbs. -/
def Lim (L : List Nat) : Prop := ∀ x ∈ L, x < 18446744073709551616
namespace Lim
theorem getD {L : List Nat} (h : Lim L) (j : Nat) : L.getD j 0 < 18446744073709551616 := by
  by_cases hj : j < L.length
  · rw [List.getD_eq_getElem?_getD, List.getElem?_eq_getElem hj]; exact h _ (List.getElem_mem hj)
  · rw [List.getD_eq_getElem?_getD, List.getElem?_eq_none (by omega)]; decide
theorem set {L : List Nat} (h : Lim L) (k : Nat) {v : Nat} (hv : v < 18446744073709551616) : Lim (L.set k v) := by
  intro x hx
  rcases List.mem_or_eq_of_mem_set hx with h' | h'
  · exact h x h'
  · omega
end Lim

theorem getD_setU {L : List Nat} {k : Nat} (hk : k < L.length) (v j : Nat) : (L.set k v).getD j 0 = if j = k then v else L.getD j 0 := D.getD_set hk

/-- What m limbs from place o are worth. -/
def wv (U : List Nat) (o : Nat) : Nat → Nat
  | 0 => 0
  | m + 1 => wv U o m + b64 ^ m * U.getD (o + m) 0
theorem wv_succ (U : List Nat) (o m : Nat) : wv U o (m + 1) = wv U o m + b64 ^ m * U.getD (o + m) 0 := rfl
theorem wv_congr {U U' : List Nat} {o o' : Nat} : ∀ {m : Nat}, (∀ j, j < m → U.getD (o + j) 0 = U'.getD (o' + j) 0) → wv U o m = wv U' o' m
  | 0, _ => rfl
  | m + 1, h => by rw [wv_succ, wv_succ, wv_congr (m := m) (fun j hj => h j (by omega)), h m (by omega)]
theorem wv_set {U : List Nat} {o m : Nat} (h : o + m < U.length) (d : Nat) : wv (U.set (o + m) d) o m = wv U o m :=
  wv_congr fun j hj => by rw [getD_setU h, if_neg (by omega)]
theorem wv_set_succ {U : List Nat} {o m : Nat} (h : o + m < U.length) (d : Nat) : wv (U.set (o + m) d) o (m + 1) = wv U o m + b64 ^ m * d := by
  rw [wv_succ, wv_set h, getD_setU h, if_pos rfl]
theorem wv_lt {U : List Nat} (h : Lim U) (o : Nat) : ∀ m, wv U o m < b64 ^ m
  | 0 => by simp [wv]
  | m + 1 => by
    rw [wv_succ, Nat.pow_succ]
    have h1 := wv_lt h o m
    have h2 := h.getD (o + m)
    rw [← b64_eq] at h2
    have h3 : b64 ^ m * (U.getD (o + m) 0 + 1) ≤ b64 ^ m * b64 := Nat.mul_le_mul_left _ h2
    rw [Nat.mul_add, Nat.mul_one] at h3
    omega

theorem pow_b64_pos (m : Nat) : 0 < b64 ^ m := Nat.pow_pos b64_pos

theorem take_limb {WU WK WV P c bw q u lo hi x b d : Nat} (I : WU + P * (c + bw) = WK + q * WV) (E1 : lo + b64 * hi = q * x + c) (E2 : u + b64 * b = d + lo + bw) :
    WU + P * u + P * b64 * (hi + b) = WK + P * d + q * (WV + P * x) := by
  have f1 : P * (lo + b64 * hi) = P * (q * x + c) := by rw [E1]
  have f2 : P * (u + b64 * b) = P * (d + lo + bw) := by rw [E2]
  simp only [Nat.mul_add, Nat.mul_assoc] at I f1 f2 ⊢
  rw [Nat.mul_left_comm q P x]
  omega
theorem back_limb {WU WK WV P c u x s k : Nat} (I : WU + WV = WK + P * c) (E : s + b64 * k = u + x + c) :
    WU + P * u + (WV + P * x) = WK + P * s + P * b64 * k := by
  have f1 : P * (s + b64 * k) = P * (u + x + c) := by rw [E]
  simp only [Nat.mul_add, Nat.mul_assoc] at I f1 ⊢
  omega

/-- Nothing but the window has turned. -/
def Within (U U' : List Nat) (o m : Nat) : Prop := U'.length = U.length ∧ ∀ j, j < o ∨ o + m ≤ j → U'.getD j 0 = U.getD j 0
theorem Within.refl (U : List Nat) (o m : Nat) : Within U U o m := ⟨rfl, fun _ _ => rfl⟩
theorem Within.set {U U' : List Nat} {o m : Nat} (h : Within U U' o m) (hl : o + m < U.length) (d : Nat) : Within U (U'.set (o + m) d) o (m + 1) :=
  ⟨by rw [List.length_set]; exact h.1, fun j hj => by
    rw [getD_setU (by rw [h.1]; exact hl), if_neg (by omega)]; exact h.2 j (by omega)⟩

end Go.Proofs.YgcsafGreat
