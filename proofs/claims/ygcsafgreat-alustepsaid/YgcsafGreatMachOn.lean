/-
  law.machOn (5).
-/
import Derived.Test.YgcsafGreatOpen
import Derived.Test.YgcsafGreatMNew
import Derived.Test.YgcsafGreatStage
namespace Go.Proofs.YgcsafGreat
open Go.RowKit
set_option linter.unusedVariables false
set_option linter.unusedSimpArgs false

theorem mN_env' (gv : Nat) {j : Nat} (hj : j < 120) : (mN gv)[2260 + j]? = envL[j]? := by
  rw [mN_split, List.getElem?_append_right (by rw [mA_length]; omega), mA_length, Nat.add_sub_cancel_left, List.getElem?_append_left (by exact hj)]
def envA : List Value := cellsL (adr 192) ++ ([.int .u64 0, .int .u64 0, .int .u64 1048576] ++ cellsL (List.replicate 64 0))
set_option maxRecDepth 100000 in
theorem envL_split : envL = envA ++ (cellsL (List.replicate 32 0) ++ [.slice none 0 0]) := by kernel_rfl
set_option maxRecDepth 100000 in
theorem envA_length : envA.length = 87 := by kernel_rfl
set_option maxRecDepth 1000000 in
theorem VF.new (gv : Nat) : VF (mF gv) := by
  refine ⟨by kernel_rfl, by kernel_rfl, by kernel_rfl, fun i v hv => ?_⟩
  have hi := (List.getElem?_eq_some_iff.1 hv).1
  rw [cellsL_length, List.length_replicate] at hi
  have h : (mN gv)[2260 + (87 + i)]? = some v := by
    rw [mN_env' gv (by omega), envL_split, List.getElem?_append_right (by rw [envA_length]; omega), envA_length, Nat.add_sub_cancel_left, List.getElem?_append_left (by rw [cellsL_length, List.length_replicate]; exact hi)]
    exact hv
  rw [mF, List.getD_eq_getElem?_getD, show 2347 + i = 2260 + (87 + i) by omega, h]; rfl
set_option maxRecDepth 100000 in
theorem lt_1_240 : Op.bytesLess (strL (adr 1)).toList (strL (adr 240)).toList = true := by kernel_rfl
theorem bal15_ne : bal15 ≠ List.replicate 32 0 := by decide
theorem Safg.under49 : Safg.prog.underlying 49 = some (.slice 26) := by kernel_rfl
set_option maxRecDepth 100000 in
theorem Safg.size26 : (Safg.prog.info? 26).map (·.size) = some 1 := by kernel_rfl
set_option maxRecDepth 100000 in
theorem Safg.zcells26 : ((Safg.prog.info? 26).bind (·.zero)).map (·.cells.size) = some 1 := by kernel_rfl
set_option maxRecDepth 100000 in
set_option maxHeartbeats 4000000 in
theorem machOn_any (w : World) (gc cc o : Nat) (C : List Nat) (own : Own w gc C) (hC : Code4 C o) (dC : D.Dig C) :
    Calls Safg.prog 5 #[.slice (some ⟨gc, 0, none⟩) 100 cc] w fun e w' => ∃ gm gv gk, e = .returned (.tuple #[.pointer (some ⟨gm, 0, none⟩), .bool true]) ∧ w.heap.size ≤ gm ∧ Run w' gm gv gk 0 0 179000 (fun _ => Wd4.zero) C (adr 1) (adr 240) ∧ Below w.heap.size w w' := by
  have hl := hC.len
  go_enter Safg.func5, Safg.ntmps5
  go_upto_region 2 with (first | (refine wpList_slice1v rfl 49 26 (.tmp 8) rfl (.slice (some ⟨gc, 0, none⟩) 100 cc) [.slice (some ⟨gc, 0, none⟩) 100 cc] rfl rfl Safg.under49 Safg.size26 Safg.zcells26 (by show 0 < 1; omega) (by show 1 ≤ 65536; omega) ?_; intro w1 gs hgs ks1 b1; have own1 := own.below b1 own.lt) | (go_at_call 15; refine (stage_one w1 gs 1 ⟨gc, 0, none⟩ 100 cc C (ks1.get rfl) (by rw [← hl]; exact own1.rd dC) (by omega) (by omega)).mono ?_; rintro e w2 ⟨gw, cw, g, rfl, hgw, stg, ow2, b2⟩) | (go_at_call 14; refine (vnew_two w.heap.size w2 gw cw (adr 1) (adr 240) bal15 (some ⟨g, 0, none⟩) C.length C.length C (Nat.le_trans b1.size b2.size) stg (by omega) (by omega) rfl bal15_dig bal15_ne (ow2.rd dC) lt_1_240 (adr_dig (by omega)) (adr_dig (by omega)) (by rw [home_1, home_240]; omega)).mono ?_; rintro e w3 ⟨gv, s, v, rfl, hgv, vok, hac, htab, hjn, hnm, hcode, b3, hv1, hv2, hjv⟩))
  have s1 := b1.size; have s2 := b2.size; have s3 := b3.size
  have B3 : Below w.heap.size w w3 := (b1.trans (b2.mono s1)).trans (b3.mono (by omega))
  have hgv' : w.heap.size ≤ gv := by omega
  clear b1 b2 b3 stg ow2 ks1 own own1
  go_upto_region 5 with (first | (go_at_call 17; refine (stageEnv_any _).mono ?_; rintro e w4 ⟨rfl, b4⟩) | (go_at_call 16; refine (mnew_any _ gv).mono ?_; rintro e w5 ⟨gm, rfl, hgm, mb, b5⟩))
  have s4 := b4.size
  have B5 : Below w3.heap.size w3 w5 := b4.trans (b5.mono s4)
  have v5 := vok.below B5
  have lgv := vok.lt
  have hgm3 : w3.heap.size ≤ gm := by omega
  obtain ⟨gK, hvK, hK0, ownK⟩ : ∃ g, v = .slice (some ⟨g, 0, none⟩) C.length C.length ∧ 0 < C.length ∧ Own w3 g C := by
    rcases hcode with ⟨_, h⟩ | h
    · rw [h] at hl; simp at hl
    · exact h
  have own5 := ownK.below B5 ownK.lt
  have lK := ownK.lt
  have nKv : gK ≠ gv := by have := hv1 gK (by rw [hvK]; rfl); omega
  have nKa : s.av.ownBlock ≠ some gK := by
    intro e
    obtain ⟨gA, cap, hav, _, _, _, hcell, _, _, xok⟩ := vok.spot (i := 0) (x := ⟨adr 1, 1, wdOf (List.replicate 32 0), v, false, false, false⟩) (by rw [hac]; rfl)
    rw [hav] at e
    have e' : gA = gK := by simpa [Value.ownBlock] using e
    subst e'
    have h1 := hcell 20 _ (Ac.at_nonce xok.len)
    have h2 := ownK.cell 20 (by omega)
    rw [Nat.zero_mul, Nat.zero_add, h2] at h1
    injection h1 with h1
    injection h1 with h1
    cases h1
  have nj : ∀ g, s.jv.ownBlock ≠ some g := fun g e => by rw [hjv] at e; simp [nilV, Value.ownBlock] at e
  have os5 : OS w.heap.size w w5 gm gv (mF gv) s [(gK, cellsL C)] := ⟨mb, v5, OF.new gv, ⟨by omega, fun e => by have := vok.vA.blk e; omega, nj gm⟩, fun p hp => by
    obtain rfl : p = (gK, cellsL C) := by simpa using hp
    exact ⟨own5.blk, ⟨nKv, nKa, nj gK⟩, by show gK ≠ gm; omega⟩, B3.trans (B5.mono (by omega)), by have := b5.size; omega, by omega, hgv'⟩
  have va : VAt s [⟨adr 1, 1, wdOf (List.replicate 32 0), v, false, false, false⟩, ⟨adr 240, 0, wdOf bal15, .slice none 0 0, false, false, false⟩] tb0 0 := ⟨hac, by rw [htab, home_1, home_240]; rfl, hjn, hnm⟩
  have HO := fun (w6 : World) (h : OS w.heap.size w w6 gm gv (mF gv) s [(gK, cellsL C)]) => open_tx w.heap.size w w6 gm gv gK o (mF gv) s [] _ _ C h (VF.new gv) va rfl rfl rfl rfl rfl rfl (by show v = _; rw [hvK, hl]) hC dC
  clear vok v5 hac htab hjn hnm hcode hv1 hv2 hjv mb ownK own5 nKv nKa nj va B3 B5 b4 b5
  go_wp2_with (first | (go_at_call 19; refine (toA1_any _).mono ?_; rintro e w6 ⟨rfl, b6⟩; have os6 := os5.below b6) | (go_at_call 18; refine (HO _ os6).mono ?_; rintro e w7 ⟨rfl, gk, R7, b7⟩))
  refine bodyPost_ret (v := .tuple #[.pointer (some ⟨gm, 0, none⟩), .bool true]) ?_ rfl ⟨gm, gv, gk, rfl, by omega, R7, b7⟩
  simp [results, Safg.results5]
end Go.Proofs.YgcsafGreat
