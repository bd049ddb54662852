import Derived.Test.YgcsafAgg
import Derived.Test.YgcsafGas
namespace Go.Proofs.Ygcsaf
open Go.RowKit
set_option linter.unusedVariables false
set_option linter.unusedSimpArgs false

/-- The access list: entry i has K[i] keys. -/
def Acc (w : World) (aa : Option Addr) (K : List Nat) : Prop :=
  ∀ i, i < K.length → ∃ b off es ka kc, aa = some ⟨b, off, none⟩ ∧ b < w.heap.size ∧ List.length es = 21 ∧ w.rangeAt b (off + i * 21) es ∧ (∀ v ∈ es, v.oneCell' = true) ∧ es[20]? = some (.slice ka (K.getD i 0) kc)
theorem Acc.below {w w' : World} {aa : Option Addr} {K : List Nat} (h : Acc w aa K) (hb : Below w.heap.size w w') : Acc w' aa K := by
  intro i hi
  obtain ⟨b, off, es, ka, kc, h1, h2, h3, h4, h5, h6⟩ := h i hi
  exact ⟨b, off, es, ka, kc, h1, Nat.lt_of_lt_of_le h2 hb.size, h3, fun j v hv => by rw [hb.cell (p := ⟨b, off + i * 21 + j, none⟩) h2]; exact h4 j v hv, h5, h6⟩

/-- What a transaction that is handed over by value holds. -/
structure Tx (w : World) (cs : List Value) (cr : Bool) (da : Option Addr) (dc : Nat) (Dt : List Nat) (aa : Option Addr) (ac : Nat) (K : List Nat) : Prop where
  len : cs.length = 174
  c40 : cs[40]? = some (.bool cr)
  c107 : cs[107]? = some (.slice da Dt.length dc)
  c173 : cs[173]? = some (.slice aa K.length ac)
  data : Rd w da Dt.length Dt
  acc : Acc w aa K
  dl : Dt.length ≤ 1025
  kl : K.length ≤ 17
  keys : ∀ i, K.getD i 0 ≤ 4398046511104
theorem Tx.below {w w' : World} {cs : List Value} {cr : Bool} {da : Option Addr} {dc : Nat} {Dt : List Nat} {aa : Option Addr} {ac : Nat} {K : List Nat} (h : Tx w cs cr da dc Dt aa ac K) (hb : Below w.heap.size w w') : Tx w' cs cr da dc Dt aa ac K :=
  ⟨h.len, h.c40, h.c107, h.c173, h.data.below hb, h.acc.below hb, h.dl, h.kl, h.keys⟩

def dgp (l : List Nat) : Nat → Nat
  | 0 => 0
  | k + 1 => dgp l k + if l.getD k 0 = 0 then 4 else 16
theorem dgp_le (l : List Nat) (k : Nat) : dgp l k ≤ 16 * k := by
  induction k with
  | zero => simp [dgp]
  | succ k ih => rw [dgp]; split <;> omega
def kgp (K : List Nat) : Nat → Nat
  | 0 => 0
  | i + 1 => kgp K i + (2400 + 1900 * K.getD i 0)
theorem kgp_le (K : List Nat) (hk : ∀ i, K.getD i 0 ≤ 4398046511104) (i : Nat) : kgp K i ≤ 8356288371100000 * i := by
  induction i with
  | zero => simp [kgp]
  | succ i ih => rw [kgp]; have := hk i; omega
/-- The intrinsic gas. -/
def gas (cr : Bool) (Dt K : List Nat) : Nat := 21000 + dgp Dt Dt.length + kgp K K.length + if cr then 32000 + 2 * ((Dt.length + 31) / 32) else 0
theorem gas_lt {cr : Bool} {Dt K : List Nat} (hd : Dt.length ≤ 1025) (hk : K.length ≤ 17) (hK : ∀ i, K.getD i 0 ≤ 4398046511104) : gas cr Dt K < 18446744073709551616 := by
  unfold gas
  have h1 := dgp_le Dt Dt.length
  have h2 := kgp_le K hK K.length
  split <;> omega

theorem Safg.size33 : (Safg.prog.info? 33).map (·.size) = some 174 := by kernel_rfl
theorem Safg.size97 : (Safg.prog.info? 97).map (·.size) = some 21 := by kernel_rfl
theorem Safg.zero97 : (Safg.prog.info? 97).map (·.zero) = some (some (.agg (List.replicate 20 (Value.int .u8 0) ++ [Value.slice none 0 0]).toArray)) := by kernel_rfl

set_option maxHeartbeats 400000 in
theorem Words_any (w : World) (x : Nat) (hx : x < 18446744073709551616) :
    Calls Safg.prog 50 #[.int .u64 (x : Int)] w fun e w' => e = .returned (.int .u64 (((x + 31) / 32 : Nat) : Int)) ∧ w' = w := by
  by_cases h : x % 32 = 0
  · have h' : (((x : Int) % 32) == 0) = true := by simp; omega
    go_enter Safg.func50, Safg.ntmps50
    go_wp2
    go_ret
    exact ⟨ret_int (by omega), rfl⟩
  · have h' : (((x : Int) % 32) == 0) = false := by simp; omega
    go_enter Safg.func50, Safg.ntmps50
    go_wp2
    go_ret
    exact ⟨ret_int (by omega), rfl⟩

set_option maxRecDepth 100000 in
set_option maxHeartbeats 1000000 in
theorem machIntrinsic_any (w : World) (cs : List Value) (cr : Bool) (da : Option Addr) (dc : Nat) (Dt : List Nat) (aa : Option Addr) (ac : Nat) (K : List Nat) (h : Tx w cs cr da dc Dt aa ac K) :
    Calls Safg.prog 16 #[.agg cs.toArray] w fun e w' => e = .returned (.int .u64 ((gas cr Dt K : Nat) : Int)) ∧ Below w.heap.size w w' := by
  have hdl := h.dl
  have hkl := h.kl
  go_enter Safg.func16, Safg.ntmps16
  go_upto_region 1 with (refine wpList_box_agg rfl 33 _ rfl cs rfl ?_; intro w1 g hg k1 b1)
  have h1 := h.below b1
  have f107 := k1.get h.c107
  go_upto_region 3 with fail
  go_loop [3, 11] (fun gv iv => ∃ k : Nat, k ≤ Dt.length ∧ iv = .int .i64 k ∧ gv = .int .u64 ((21000 + dgp Dt k : Nat) : Int)) (fun _ iv => Dt.length - (intOf iv).toNat)
  case atStart => exact ⟨0, Nat.zero_le _, rfl, rfl⟩
  case round =>
    obtain ⟨k, hk, rfl, rfl⟩ := hrel
    have hle := dgp_le Dt k
    by_cases hkn : k < Dt.length
    · obtain ⟨b, off, e1, hb1, hc1⟩ := h1.data.cell k hkn
      have HD : Hid (dgp Dt (k + 1) = dgp Dt k + if Dt.getD k 0 = 0 then 4 else 16) := rfl
      generalize dgp Dt k = s at *
      by_cases hz : Dt.getD k 0 = 0
      · rw [hz] at hc1 HD
        subst e1
        go_wp2
        go_round
        case rel => exact ⟨k + 1, by omega, by go_num, by rw [HD.out]; simp; omega⟩
        case measure => simp [intOf]; omega
      · have HZ : Hid (¬ Dt.getD k 0 = 0) := hz
        generalize Dt.getD k 0 = x at hc1 hz HD HZ
        have hz' : (((x : Nat) : Int) == 0) = false := by simpa using hz
        subst e1
        go_wp2
        go_round
        case rel => exact ⟨k + 1, by omega, by go_num, by rw [HD.out, if_neg HZ.out]; simp; omega⟩
        case measure => simp [intOf]; omega
    · have hkD : k = Dt.length := by omega
      subst hkD
      have f173 := k1.get h.c173
      go_upto_region 10 with fail
      generalize hs0 : 21000 + dgp Dt Dt.length = s0 at *
      have HS0 : Hid (21000 + dgp Dt Dt.length = s0) := hs0
      have hs0b : s0 ≤ 37400 := by omega
      clear hs0
      go_loopw [3, 25] (fun gv iv wr => ∃ i : Nat, i ≤ K.length ∧ iv = .int .i64 i ∧ gv = .int .u64 ((s0 + kgp K i : Nat) : Int) ∧ Below w1.heap.size w1 wr) (fun _ iv _ => K.length - (intOf iv).toNat)
      case atStart => exact ⟨0, Nat.zero_le _, rfl, by rw [← HS0.out]; simp [kgp], Below.refl _ _⟩
      case round =>
        obtain ⟨i, hi, rfl, rfl, belr⟩ := hrel
        have hle2 := kgp_le K h.keys i
        by_cases hin : i < K.length
        · obtain ⟨b, off, es, ka, kc, e1, hb1, hes, hrng, hone, h20⟩ := (h1.acc.below belr) i hin
          have hkey := h.keys i
          have HG : Hid (kgp K (i + 1) = kgp K i + (2400 + 1900 * K.getD i 0)) := rfl
          generalize kgp K i = s at *
          generalize K.getD i 0 = kn at h20 hkey HG
          subst e1
          have hin' : (i : Int) < (K.length : Int) := by omega
          go_upto_region 11 with fail
          apply wp_region_lit
          refine wpList_index_slice rfl 31 _ _ rfl b off K.length ac i 21 rfl rfl hin Safg.underlying31 Safg.sizeOf97 ?_
          refine wpList_load_mid rfl 97 _ rfl b (off + i * 21) rfl es _ hrng Safg.underlying97 rfl (by rw [hes]; exact Safg.size97) ?_
          refine wpList_alloc_agg rfl 97 rfl _ Safg.zero97 ?_
          intro w2 g2 hg2 k2 b2
          refine wpList_store_agg rfl 97 _ _ rfl g2 rfl _ es rfl k2 (by rw [hes]; rfl) Safg.size97 hone ?_
          intro w3 k3 b3
          have f20 := k3.get h20
          go_wp2
          go_roundw
          case rel => exact ⟨i + 1, by omega, by go_num, by rw [HG.out]; simp; omega, (belr.trans (b2.mono belr.size)).trans (b3.below (by have := belr.size; omega))⟩
          case measure => simp [intOf]; omega
        · have hiK : i = K.length := by omega
          subst hiK
          have hlt := k1.lt
          have f40 := (k1.below belr hlt).get h.c40
          have f107r := (k1.below belr hlt).get h.c107
          have HG : Hid (∀ x, x = (if cr then 32000 + 2 * ((Dt.length + 31) / 32) else 0) → s0 + kgp K K.length + x = gas cr Dt K) := fun x hx => by unfold gas; rw [hx, ← HS0.out]
          generalize kgp K K.length = s at *
          cases cr with
          | false =>
            go_wp2
            go_ret
            exact ⟨ret_int (by rw [← HG.out 0 rfl]; rfl), b1.trans (belr.mono b1.size)⟩
          | true =>
            go_wp2_with (go_at_call 50; refine (Words_any _ Dt.length (by omega)).mono ?_; rintro e w4 ⟨rfl, hw⟩; subst hw)
            go_ret
            refine ⟨ret_int ?_, b1.trans (belr.mono b1.size)⟩
            rw [← HG.out _ rfl]
            simp
end Go.Proofs.Ygcsaf
