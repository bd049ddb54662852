/-
  'Arena.Grow' (53): the arms that append; the whole.
-/
import Derived.Test.YgcsafGrow
namespace Go.Proofs.Ygcsaf
open Go.RowKit
set_option linter.unusedVariables false
set_option linter.unusedSimpArgs false

theorem setT_other {w : World} {T o o' : Nat} {u v : Value} {x : Option Value} (h : w.cell? ⟨T, o, none⟩ = some u) (hx : w.cell? ⟨T, o', none⟩ = x) (hne : o' ≠ o) : (w.setCell ⟨T, o, none⟩ v).cell? ⟨T, o', none⟩ = x := by
  rw [setT_cell h, if_neg hne, hx]

theorem wpList_append_zeros' {w : World} {ops : Array Oper} {rest : List Oper} {o : Oper} {a : Act} {Q : Exit → Act → World → Prop} (hgd : o.guard = none) (s x : Operand)
    (ho : o.op = .call { callee := .builtin .append, args := #[s, x], argTypes := #[30, 3] })
    (B : Nat) (bv : Value) (buf : List Nat) (n : Nat) (hn : buf.length = n) (hs : a.eval s = bv) (hv : Vec B w bv (buf.map byteV)) (m : Nat) (M : Int) (hx : a.eval x = .int .i64 M) (hM : M = (m : Int)) (hm : 0 < m) (hbig : n + m ≤ 10000000) (hB : B ≤ w.heap.size)
    (h : ∀ g cap w', B ≤ g → RowV w' g cap ((buf ++ List.replicate m 0).map byteV) → cap ≤ maxLen → Turn bv.ownBlock.toList w w' → (bv.ownBlock = some g ∨ w.heap.size ≤ g) → wpList Safg.prog ops Q rest (a.put o.dst (.slice (some ⟨g, 0, none⟩) (n + m) cap)) w') :
    wpList Safg.prog ops Q (o :: rest) a w := by
  subst hn
  exact wpList_append_zeros hgd s x ho B bv buf hs hv m M hx hM hm hbig hB h

set_option maxRecDepth 100000 in
set_option maxHeartbeats 8000000 in
/-- The arm that appends to a buffer that is there. -/
theorem aGrow_app (w : World) (B T : Nat) (g cap n : Nat) (buf base : List Nat) (k : Nat) (ar : Ar B T w (.slice (some ⟨g, 0, none⟩) n cap) buf base (k + 1)) (ok : ArOk buf base (k + 1)) (hn : n = buf.length) (a m lo hi M : Nat) (hlo : base.getD k 0 = lo) (hhi : base.getD (k + 1) 0 = hi) (hm : hi - lo = m)
    (ha : a ≤ 22415) (hM : m + M = 32 * a) (hpos : 0 < M) (hfits : n < hi + M) (hin : hi ≤ n) (hcap : n ≤ cap) (hcm : cap ≤ maxLen) (hBw : B ≤ w.heap.size) :
    Calls Safg.prog 53 #[.pointer (some ⟨T, 0, none⟩), .int .u32 (a : Int)] w fun e w' => e = .returned (.bool true) ∧ GPost B T w w' (.slice (some ⟨g, 0, none⟩) n cap) buf base k hi M := by
  have HT := top_some w B T _ buf base k ar ok lo hi hlo hhi
  rw [hm] at HT
  have hk := ok.top_le
  have hmost := ok.most
  have t1 : decide ((22415 : Int) < (a : Int)) = false := decide_eq_false (by omega)
  have t2 : decide ((32 : Int) * (a : Int) ≤ (m : Int)) = false := decide_eq_false (by omega)
  have HD : Hid ((32 : Int) * (a : Int) - (m : Int) = (M : Int)) := by show _ = _; omega
  have cb := ar.cb (k + 1) (by omega)
  rw [hhi] at cb
  have c9 := ar.c9
  have c0 := ar.c0
  have free := ar.free
  have hTg : T ≠ g := fun e => ar.ne (by rw [e]; rfl)
  have hml : maxLen = 9223372036854775807 := rfl
  have hmn : m ≤ 717280 := by omega
  have t3 : decide ((M : Int) ≤ ((n - hi : Nat) : Int)) = false := decide_eq_false (by omega)
  have hn6 : n ≤ 5020960 := by omega
  have HN : Hid (n = buf.length) := hn
  have HAR : Hid (Ar B T w (.slice (some ⟨g, 0, none⟩) n cap) buf base (k + 1)) := ar
  have HWV : Hid (IntKind.u32.wrap ((hi : Int) + IntKind.u32.wrap (M : Int)) = ((hi + M : Nat) : Int)) := by
    show _ = _
    rw [IntKind.wrap_u32, IntKind.wrap_u32]
    omega
  have HFIN : Hid (∀ (w1 w2 w3 w' : World) (g' cap' : Nat), Same w w1 → Same (w1.setCells g hi ((List.replicate (n - hi) 0).map byteV)) w2 → B ≤ g' → RowV w3 g' cap' ((layL buf hi (List.replicate (n - hi) 0) ++ List.replicate (M - (n - hi)) 0).map byteV) → cap' ≤ maxLen → Turn [g] w2 w3 → (some g = some g' ∨ w2.heap.size ≤ g') →
      Same ((w3.setCell ⟨T, 0, none⟩ (.slice (some ⟨g', 0, none⟩) (n + (M - (n - hi))) cap')).setCell ⟨T, 1 + (k + 1), none⟩ (.int .u32 ((hi + M : Nat) : Int))) w' → GPost B T w w' (.slice (some ⟨g, 0, none⟩) n cap) buf base k hi M) := by
    intro w1 w2 w3 w' g' cap' s1 s2 hB' r' hcm' tn' hor hs
    have hln : (List.replicate (n - hi) 0 : List Nat).length = n - hi := by simp
    have a2 := ((ar.same s1).layAny (g := g) rfl hi (List.replicate (n - hi) 0) (by rw [hln, ← hn]; omega)).same s2
    have only := Only.setCells (g := g) ((List.replicate (n - hi) 0).map byteV) (a := w1) (w := w1) hi (Only.refl g w1)
    have tT : T ∉ [g] := by simpa using hTg
    have tt : Turn [g] w w2 := ((Turn.of_same s1.os s1.tape s1.output s1.heap [g]).trans (Turn.of_only only)).trans (Turn.of_same s2.os s2.tape s2.output s2.heap [g])
    have hsz : w2.heap.size = w.heap.size := by rw [s2.heap, only.size, s1.heap]
    have hne : (some g' : Option Nat) ≠ some T := by
      intro e
      injection e with e
      rcases hor with h | h
      · injection h with h; exact hTg (by rw [h, e])
      · have := ar.lt; omega
    have hln2 : (layL buf hi (List.replicate (n - hi) 0) ++ List.replicate (M - (n - hi)) 0).length = n + (M - (n - hi)) := by
      rw [List.length_append, layL_length (by rw [hln, ← hn]; omega), List.length_replicate, ← hn]
    have hv : Vec B w3 (.slice (some ⟨g', 0, none⟩) (n + (M - (n - hi))) cap') ((layL buf hi (List.replicate (n - hi) 0) ++ List.replicate (M - (n - hi)) 0).map byteV) :=
      .inr ⟨g', cap', by rw [List.length_map, hln2], hB', r', hcm'⟩
    have hmore := layL_more buf hi M (by omega) (by omega)
    rw [← hn] at hmore
    rw [hmore] at hv
    have hlt2 : T < w2.heap.size := a2.lt
    refine ⟨w3.setCell ⟨T, 0, none⟩ (.slice (some ⟨g', 0, none⟩) (n + (M - (n - hi))) cap'), .slice (some ⟨g', 0, none⟩) (n + (M - (n - hi))) cap', Ar.setBuf (Nat.lt_of_lt_of_le hlt2 tn'.size) (by rw [tn'.cell (p := ⟨T, 0, none⟩) hlt2 tT]; exact a2.c0) (fun j hj => by rw [tn'.cell (p := ⟨T, 1 + j, none⟩) hlt2 tT]; exact a2.cb j hj) (by rw [tn'.cell (p := ⟨T, 9, none⟩) hlt2 tT]; exact a2.c9) (fun o => by rw [tn'.frozen (p := ⟨T, o, none⟩) hlt2 tT]; exact a2.free o) hv hne, ?_, ?_, ?_, hs⟩
    · intro q hq
      have e : g' = q := by simpa [Value.ownBlock] using hq
      subst e
      rcases hor with h | h
      · exact .inl (by show some g = some g'; exact h)
      · exact .inr (by omega)
    · refine ((tt.trans tn').mono ?_).then_ (setT_turn w3 T _ _) (by simp)
      intro i hi'
      simp at hi'
      subst hi'
      simp [Value.ownBlock]
    · intro o ho
      rw [setT_cell (u := .slice (some ⟨g, 0, none⟩) n cap) (by rw [tn'.cell (p := ⟨T, 0, none⟩) hlt2 tT]; exact a2.c0), if_neg (by omega), tn'.cell (p := ⟨T, o, none⟩) hlt2 tT, s2.cell, only.cell (p := ⟨T, o, none⟩) hTg, s1.cell]
  obtain ⟨cap', e, hB, r, _⟩ := ar.block (g := g) rfl
  have hcap' : cap' = cap := by simp at e; omega
  subst hcap'
  have room := r.room
  have rfree := r.free
  clear ok ar hlo hhi e hB r hm hn
  go_enter Safg.func53, Safg.ntmps53
  go_wp2_with fail
  refine HT.mono ?_
  rintro e w1 ⟨ad, rfl, had, s1⟩
  clear had HT
  have c0' := (s1.cell _).trans c0
  have c9' := (s1.cell _).trans c9
  have cb' := (s1.cell _).trans cb
  go_upto_region 7 with fail
  rw [HD.out]
  clear t1 t2 HD c0 c9 cb
  have hk6 : k ≤ 6 := by omega
  have HV : Hid (∀ w2, Same (w1.setCells g hi ((List.replicate (n - hi) 0).map byteV)) w2 → Vec B w2 (.slice (some ⟨g, 0, none⟩) n cap') ((layL buf hi (List.replicate (n - hi) 0)).map byteV) ∧ (layL buf hi (List.replicate (n - hi) 0)).length = n ∧ B ≤ w2.heap.size ∧
      w2.cell? ⟨T, 0, none⟩ = some (.slice (some ⟨g, 0, none⟩) n cap') ∧ w2.cell? ⟨T, 9, none⟩ = some (.int .u8 ((k + 1 : Nat) : Int)) ∧ w2.cell? ⟨T, 1 + (k + 1), none⟩ = some (.int .u32 (hi : Int)) ∧ (∀ o, w2.frozen? ⟨T, o, none⟩ = false) ∧ T < w2.heap.size) := by
    intro w2 s2
    have hln : (List.replicate (n - hi) 0 : List Nat).length = n - hi := by simp
    have hnb := HN.out
    have a2 := ((HAR.out.same s1).layAny (g := g) rfl hi (List.replicate (n - hi) 0) (by rw [hln, ← hnb]; omega)).same s2
    have only := Only.setCells (g := g) ((List.replicate (n - hi) 0).map byteV) (a := w1) (w := w1) hi (Only.refl g w1)
    have hsz : w2.heap.size = w.heap.size := by rw [s2.heap, only.size, s1.heap]
    exact ⟨a2.vec, by rw [layL_length (by rw [hln, ← hnb]; omega), ← hnb], by omega, a2.c0, a2.c9, by rw [s2.cell, only.cell (p := ⟨T, 1 + (k + 1), none⟩) hTg]; exact cb', a2.free, a2.lt⟩
  have HTn : Hid (T ∉ [g]) := by show T ∉ [g]; simpa using hTg
  obtain ⟨buf2, HB2⟩ : ∃ b, Hid (layL buf hi (List.replicate (n - hi) 0) = b) := ⟨_, rfl⟩
  rw [HB2.out] at HFIN HV
  have hrep : (List.replicate (n - hi) 0).map byteV = List.replicate (n - hi) (Value.int .u8 0) := replicate_byteV _
  rw [hrep] at HFIN HV
  clear hrep
  obtain ⟨Z, HZ⟩ : ∃ Z, Hid (List.replicate (n - hi) (Value.int .u8 0) = Z) := ⟨_, rfl⟩
  rw [HZ.out] at HFIN HV
  by_cases hch : hi = cap'
  · obtain rfl : n = hi := by omega
    subst hch
    have HZ0 : Hid (Z = []) := by show _ = _; rw [← HZ.out, Nat.sub_self]; rfl
    have e0 : n - n = 0 := Nat.sub_self n
    rw [e0] at HFIN t3
    clear e0
    (
      go_quiet (fail)
      go_upto_region 12 with (refine wpList_clear_none rfl _ rfl _ _ rfl ?_)
      have hs2 : Same (w1.setCells g n Z) (w1.drewN nq) := by rw [HZ0.out]; exact Same.drewN _ _
      generalize w1.drewN nq = w2 at *
      obtain ⟨hv2, hl2, hb2, c02, c92, cb2, fr2, lt2⟩ := HV.out w2 hs2
      have HS : Hid (Same (w1.setCells g n Z) w2) := hs2
      have HL2 : Hid (buf2.length = n) := hl2
      clear c9' cb' c0' hs2 hl2 HV
      go_upto_region 13 with (refine wpList_append_zeros' rfl _ _ rfl B _ buf2 n HL2.out rfl hv2 M _ rfl (by omega) (by omega) (by omega) hb2 ?_; intro g' cap2 w3 hB' r' hcm' tn' hor; have c03 := (tn'.cell (p := ⟨T, 0, none⟩) lt2 HTn.out).trans c02; have c93 := (tn'.cell (p := ⟨T, 9, none⟩) lt2 HTn.out).trans c92; have cb3 := (tn'.cell lt2 HTn.out).trans cb2; have fr3 : ∀ o, w3.frozen? ⟨T, o, none⟩ = false := fun o => (tn'.frozen (p := ⟨T, o, none⟩) lt2 HTn.out).trans (fr2 o); have HTU : Hid (Turn [g] w2 w3 ∧ B ≤ g' ∧ RowV w3 g' cap2 ((buf2 ++ List.replicate M 0).map byteV) ∧ cap2 ≤ maxLen ∧ (some g = some g' ∨ w2.heap.size ≤ g')) := ⟨tn', hB', r', hcm', hor⟩; clear tn' hB' r' hcm' hor)
      have c94 := (setT_cell (o' := 9) (v := .slice (some ⟨g', 0, none⟩) (n + M) cap2) c03).trans c93
      have cb4 := setT_other (v := .slice (some ⟨g', 0, none⟩) (n + M) cap2) c03 cb3 (by omega)
      have fr4 : ∀ o, (w3.setCell ⟨T, 0, none⟩ (.slice (some ⟨g', 0, none⟩) (n + M) cap2)).frozen? ⟨T, o, none⟩ = false := fun o => by rw [World.frozen?_setCell]; exact fr3 o
      obtain ⟨w4, HW4⟩ : ∃ w4, Hid (w3.setCell ⟨T, 0, none⟩ (.slice (some ⟨g', 0, none⟩) (n + M) cap2) = w4) := ⟨_, rfl⟩
      rw [HW4.out] at c94 cb4 fr4 ⊢
      clear c02 c92 cb2 fr2 c03 c93 cb3 fr3 hv2
      go_region
      go_wp2
      go_ret
      refine ⟨rfl, HFIN.out w1 w2 w3 _ g' cap2 s1 HS.out HTU.out.2.1 HTU.out.2.2.1 HTU.out.2.2.2.1 HTU.out.1 HTU.out.2.2.2.2 ?_⟩
      rw [Nat.sub_zero, HW4.out]
      first | rw [HWV.out] | rw [Int.natCast_add]
      exact Same.drew _)
  · (
      go_quiet (fail)
      go_upto_region 12 with (refine wpList_clear_bytes rfl _ 30 rfl Safg.underlying30 _ g hi (n - hi) (cap' - hi) rfl (fun _ => rfl) (fun j hj => by rw [(Same.drewN w1 _).cell, s1.cell]; exact room _ (by omega)) (fun j hj => by rw [(Same.drewN w1 _).frozen, s1.frozen]; exact rfree _) ?_; rw [HZ.out])
      have hs2 := (Same.drewN w1 nq).setCells g hi Z
      generalize (w1.drewN nq).setCells g hi Z = w2 at *
      obtain ⟨hv2, hl2, hb2, c02, c92, cb2, fr2, lt2⟩ := HV.out w2 hs2
      have HS : Hid (Same (w1.setCells g hi Z) w2) := hs2
      have HL2 : Hid (buf2.length = n) := hl2
      clear c9' cb' c0' hs2 hl2 HV
      go_upto_region 13 with (refine wpList_append_zeros' rfl _ _ rfl B _ buf2 n HL2.out rfl hv2 (M - (n - hi)) _ rfl (by omega) (by omega) (by omega) hb2 ?_; intro g' cap2 w3 hB' r' hcm' tn' hor; have c03 := (tn'.cell (p := ⟨T, 0, none⟩) lt2 HTn.out).trans c02; have c93 := (tn'.cell (p := ⟨T, 9, none⟩) lt2 HTn.out).trans c92; have cb3 := (tn'.cell lt2 HTn.out).trans cb2; have fr3 : ∀ o, w3.frozen? ⟨T, o, none⟩ = false := fun o => (tn'.frozen (p := ⟨T, o, none⟩) lt2 HTn.out).trans (fr2 o); have HTU : Hid (Turn [g] w2 w3 ∧ B ≤ g' ∧ RowV w3 g' cap2 ((buf2 ++ List.replicate (M - (n - hi)) 0).map byteV) ∧ cap2 ≤ maxLen ∧ (some g = some g' ∨ w2.heap.size ≤ g')) := ⟨tn', hB', r', hcm', hor⟩; clear tn' hB' r' hcm' hor)
      have c94 := (setT_cell (o' := 9) (v := .slice (some ⟨g', 0, none⟩) (n + (M - (n - hi))) cap2) c03).trans c93
      have cb4 := setT_other (v := .slice (some ⟨g', 0, none⟩) (n + (M - (n - hi))) cap2) c03 cb3 (by omega)
      have fr4 : ∀ o, (w3.setCell ⟨T, 0, none⟩ (.slice (some ⟨g', 0, none⟩) (n + (M - (n - hi))) cap2)).frozen? ⟨T, o, none⟩ = false := fun o => by rw [World.frozen?_setCell]; exact fr3 o
      obtain ⟨w4, HW4⟩ : ∃ w4, Hid (w3.setCell ⟨T, 0, none⟩ (.slice (some ⟨g', 0, none⟩) (n + (M - (n - hi))) cap2) = w4) := ⟨_, rfl⟩
      rw [HW4.out] at c94 cb4 fr4 ⊢
      clear c02 c92 cb2 fr2 c03 c93 cb3 fr3 hv2
      go_region
      go_wp2
      go_ret
      refine ⟨rfl, HFIN.out w1 w2 w3 _ g' cap2 s1 HS.out HTU.out.2.1 HTU.out.2.2.1 HTU.out.2.2.2.1 HTU.out.1 HTU.out.2.2.2.2 ?_⟩
      rw [HW4.out]
      first | rw [HWV.out] | rw [Int.natCast_add]
      exact Same.drew _)

end Go.Proofs.Ygcsaf
