/- Purses as bytes: the contracts of Encode, Read, Decode, of the code and of the document. -/
import Derived.Test.YtbkagefapmnojaaW1
import Derived.Test.YtbkagefapmnojaaSm
import Derived.Test.YtbkagefapmnojaaRdOld
import Derived.Test.YtbkagefapmnojaaBackRd
namespace Go.Proofs.Ytbkagefapmnojaa
open Go.RowKit

def encItB (i : It) : List UInt8 := encs [i.a, i.b, i.c, i.d]
theorem encItB_len (i : It) : (encItB i).length ≤ 40 := by
  have h2 := encs_length [i.a, i.b, i.c, i.d]
  simp only [encItB, List.length_cons, List.length_nil] at h2 ⊢
  omega
theorem clampN_of {v : Int} (h0 : 0 ≤ v) (h : v ≤ 4611686018427387904) : ((clampN v : Nat) : Int) = v := by unfold clampN; omega
theorem clampN_nat {n : Nat} (h : n ≤ 4611686018427387904) : clampN (n : Int) = n := by unfold clampN; omega
/-- What is read of a purse, named. -/
structure IIs (l : List UInt8) (n0 n1 n2 n3 : Nat) (r1 : List UInt8) (b1 : Bool) (r2 : List UInt8) (b2 : Bool) (r3 : List UInt8) (b3 : Bool) (rr : List UInt8) (rb : Bool) : Prop where
  v0 : rdVal l false 0 = n0
  v1 : rdVal l false 1 = n1
  v2 : rdVal l false 2 = n2
  v3 : rdVal l false 3 = n3
  sr : (rdSt l false 4).1 = rr
  sb : (rdSt l false 4).2 = rb
  na : numT l false = (n0, r1, b1)
  nb : numT r1 b1 = (n1, r2, b2)
  nc : numT r2 b2 = (n2, r3, b3)
  nd : numT r3 b3 = (n3, rr, rb)
  len : rr.length ≤ l.length
  back : (!rb && rr.isEmpty) = true → encItB ⟨n0, n1, n2, n3⟩ = l
theorem rdSt_step {r : List UInt8} {b : Bool} {k j : Nat} (hj : j = k + 1) (h : (rdSt r b j).2 = false) : (rdSt r b k).2 = false ∧ (rdSt r b k).1 = encN (rdVal r b k) ++ (rdSt r b j).1 := by subst hj; exact rdSt_back h
theorem app_eq {a x r r' : List UInt8} (h : a = x ++ r) (k : r = r') : a = x ++ r' := k ▸ h
theorem it_parts (l : List UInt8) : ∃ n0 n1 n2 n3 r1 b1 r2 b2 r3 b3 rr rb, IIs l n0 n1 n2 n3 r1 b1 r2 b2 r3 b3 rr rb := by
  refine ⟨rdVal l false 0, rdVal l false 1, rdVal l false 2, rdVal l false 3, (rdSt l false 1).1, (rdSt l false 1).2, (rdSt l false 2).1, (rdSt l false 2).2, (rdSt l false 3).1, (rdSt l false 3).2, (rdSt l false 4).1, (rdSt l false 4).2, ⟨rfl, rfl, rfl, rfl, rfl, rfl, rd_step l false 0 1 rfl, rd_step l false 1 2 rfl, rd_step l false 2 3 rfl, rd_step l false 3 4 rfl, rdSt_le _ _ _, fun h => ?_⟩⟩
  simp only [Bool.and_eq_true, Bool.not_eq_true', List.isEmpty_iff] at h
  obtain ⟨h4, hr⟩ := h
  obtain ⟨h3, e3⟩ := rdSt_step (k := 3) rfl h4
  obtain ⟨h2, e2⟩ := rdSt_step (k := 2) rfl h3
  obtain ⟨h1, e1⟩ := rdSt_step (k := 1) rfl h2
  obtain ⟨h0, e0⟩ := rdSt_step (k := 0) rfl h1
  have e3 := app_eq e3 hr
  have e2 := app_eq e2 e3
  have e1 := app_eq e1 e2
  have e0 := app_eq e0 e1
  simp only [encItB, encs, List.flatMap_cons, List.flatMap_nil, clampN_nat (rdVal_le l false 0), clampN_nat (rdVal_le l false 1), clampN_nat (rdVal_le l false 2), clampN_nat (rdVal_le l false 3)]
  exact e0.symm
def goodI (l : List UInt8) : Bool := (!(rdSt l false 4).2 && (rdSt l false 4).1.isEmpty) && isI ⟨rdVal l false 0, rdVal l false 1, rdVal l false 2, rdVal l false 3⟩
def itR (l : List UInt8) : It := if goodI l = true then ⟨rdVal l false 0, rdVal l false 1, rdVal l false 2, rdVal l false 3⟩ else zeroI
def itE (l : List UInt8) : Int := if goodI l = true then 0 else 3
theorem IIs.good {l : List UInt8} {n0 n1 n2 n3 : Nat} {r1 : List UInt8} {b1 : Bool} {r2 : List UInt8} {b2 : Bool} {r3 : List UInt8} {b3 : Bool} {rr : List UInt8} {rb : Bool} (h : IIs l n0 n1 n2 n3 r1 b1 r2 b2 r3 b3 rr rb) : goodI l = ((!rb && rr.isEmpty) && isI ⟨n0, n1, n2, n3⟩) := by
  unfold goodI; rw [h.v0, h.v1, h.v2, h.v3, h.sr, h.sb]
theorem itR_no {l : List UInt8} (h : goodI l = false) : itR l = zeroI ∧ itE l = 3 := by unfold itR itE; rw [h]; exact ⟨rfl, rfl⟩
theorem itR_yes {l : List UInt8} (h : goodI l = true) : itR l = ⟨rdVal l false 0, rdVal l false 1, rdVal l false 2, rdVal l false 3⟩ ∧ itE l = 0 := by unfold itR itE; rw [h]; exact ⟨rfl, rfl⟩
theorem it_back {i : It} (h : isI i = true) : itR (encItB i) = i ∧ itE (encItB i) = 0 := by
  have h2 := h
  rw [isI_iff] at h2
  have hl : encItB i = encN (clampN i.a) ++ (encN (clampN i.b) ++ (encN (clampN i.c) ++ (encN (clampN i.d) ++ []))) := by
    simp only [encItB, encs, List.flatMap_cons, List.flatMap_nil]
  have c := clampN_le
  have v0 : rdVal (encItB i) false 0 = clampN i.a := by rw [hl, rdVal_enc0 _ _ _ (c _)]
  have v1 : rdVal (encItB i) false 1 = clampN i.b := by rw [hl, rdVal_enc _ _ _ 0 (c _), rdVal_enc0 _ _ _ (c _)]
  have v2 : rdVal (encItB i) false 2 = clampN i.c := by rw [hl, rdVal_enc _ _ _ 1 (c _), rdVal_enc _ _ _ 0 (c _), rdVal_enc0 _ _ _ (c _)]
  have v3 : rdVal (encItB i) false 3 = clampN i.d := by rw [hl, rdVal_enc _ _ _ 2 (c _), rdVal_enc _ _ _ 1 (c _), rdVal_enc _ _ _ 0 (c _), rdVal_enc0 _ _ _ (c _)]
  have st : rdSt (encItB i) false 4 = ([], false) := by
    rw [hl, rdSt_enc _ _ _ 3 (c _), rdSt_enc _ _ _ 2 (c _), rdSt_enc _ _ _ 1 (c _), rdSt_enc _ _ _ 0 (c _)]
    rfl
  have e : (⟨(clampN i.a : Nat), (clampN i.b : Nat), (clampN i.c : Nat), (clampN i.d : Nat)⟩ : It) = i :=
    It.ext' (clampN_of (by omega) (by omega)) (clampN_of (by omega) (by omega)) (clampN_of (by omega) (by omega)) (clampN_of (by omega) (by omega))
  have hg : goodI (encItB i) = true := by
    unfold goodI
    rw [v0, v1, v2, v3, st, e, h]
    rfl
  obtain ⟨g1, g2⟩ := itR_yes hg
  rw [v0, v1, v2, v3, e] at g1
  exact ⟨g1, g2⟩
/-- Nums of numbers that lie in a block of the call's own. -/
theorem St.numsIn {W w : World} {L : List Th} {p b : Nat} {l : List UInt8} {o : Option Nat} {cur : Array Value} {t : TypeId} (h : St W w (thWr p W.heap.size l o :: thObj b (.cells cur t (0, 0)) :: L)) (vs : List Int) (off cv k : Nat) (hk : k = vs.length) (hc : ∀ i, (hi : i < vs.length) → cur[off + i]? = some (.int .i64 vs[i])) (hm : l.length + 10 * vs.length ≤ 140737488351232) :
    Calls Try.prog 32 #[.pointer (some ⟨p, 0, none⟩), .slice (some ⟨b, off, none⟩) k cv] w fun e w' => e = .returned (.tuple #[]) ∧ ∃ o', St W w' (thWr p W.heap.size (l ++ encs vs) o' :: thObj b (.cells cur t (0, 0)) :: L) := by
  subst hk
  obtain ⟨hlt, hcell, -⟩ := h.cells (b := b) (cur := cur) (t := t) (List.mem_cons_of_mem _ (List.mem_cons_self ..))
  have hdis := h.t.2.2.1 (thObj b (.cells cur t (0, 0))) (List.mem_cons_self ..)
  refine (nums_some p W.heap.size l o b off cv vs w h.head (fun i hi => by rw [hcell]; exact hc i hi) hlt (fun e => hdis b (.inl e) rfl) (fun e => hdis b (.inr e) rfl) h.b.size hm).mono ?_
  rintro e w' ⟨rfl, hi⟩
  exact ⟨rfl, h.wrote hi⟩
set_option maxHeartbeats 1000000 in
theorem renc8_any (i : It) (w : World) : Calls Try.prog 25 #[.agg #[.int .i64 i.a, .int .i64 i.b, .int .i64 i.c, .int .i64 i.d]] w (FreshB w (encItB i)) := by
  go_enter Try.func25, Try.ntmps25
  go_wp2_with fail
  refine (refNums_eq [i.a, i.b, i.c, i.d] _ _ 4 _ (by simp) rfl rfl (by simp) _ rfl).mono ?_
  rintro e w1 ⟨ao, cap, rfl, ho, hb⟩
  have hX : encs [i.a, i.b, i.c, i.d] = encItB i := rfl
  rw [hX] at ho ⊢
  have Ho := Lib.hid ho
  have Hb := Lib.hid hb
  clear hX ho hb
  go_wp2_with fail
  go_ret
  exact ⟨ao, cap, rfl, own_weak Ho.out (by simp), (below_allocO w _).trans (Hb.out.mono (by simp))⟩
/-- The document's Reader errs. -/
theorem St.badO {W w : World} {L : List Th} {p g : Nat} {rest : List UInt8} {bad : Bool} (h : St W w (thRO W p g rest bad :: L)) :
    Calls Try.prog 39 #[.pointer (some ⟨p, 0, none⟩)] w fun e w' => e = .returned (.tuple #[]) ∧ St W w' (thRO W p g [] true :: L) := by
  refine (rrbad_any p g rest bad w (RO.rr h.head h.b)).mono ?_
  rintro e w' ⟨rfl, hr, hk⟩
  exact ⟨rfl, h.stepRO hr hk (by simp)⟩
set_option maxRecDepth 40000 in
set_option maxHeartbeats 4000000 in
theorem read8_any {W w : World} {L : List Th} {p g : Nat} {rest : List UInt8} {bad : Bool} (h : St W w (thRO W p g rest bad :: L)) (hm : rest.length ≤ 2000) (m0 m1 m2 m3 : Nat) (r1 r2 r3 r4 : List UInt8) (b1 b2 b3 b4 : Bool) (e0 : numT rest bad = (m0, r1, b1)) (e1 : numT r1 b1 = (m1, r2, b2)) (e2 : numT r2 b2 = (m2, r3, b3)) (e3 : numT r3 b3 = (m3, r4, b4)) (z : Bool) (hz : isI ⟨m0, m1, m2, m3⟩ = z) :
    Calls Try.prog 30 #[.pointer (some ⟨p, 0, none⟩)] w fun e w' => e = .returned (.agg #[.int .i64 (m0 : Nat), .int .i64 (m1 : Nat), .int .i64 (m2 : Nat), .int .i64 (m3 : Nat)]) ∧ St W w' (thRO W p g (if z then r4 else []) (if z then b4 else true) :: L) := by
  have H := Lib.hid h
  have Hl : Hid (r1.length ≤ 2000 ∧ r2.length ≤ 2000 ∧ r3.length ≤ 2000) := by
    have h1 := (numT_le rest bad).1; rw [e0] at h1
    have h2 := (numT_le r1 b1).1; rw [e1] at h2
    have h3 := (numT_le r2 b2).1; rw [e2] at h3
    simp only at h1 h2 h3
    exact ⟨by omega, by omega, by omega⟩
  have E0 := Lib.hid e0
  have E1 := Lib.hid e1
  have E2 := Lib.hid e2
  have E3 := Lib.hid e3
  have hq := fun w => satrapyref8_is ⟨m0, m1, m2, m3⟩ w
  rw [hz] at hq
  have Hq := Lib.hid hq
  clear h e0 e1 e2 e3 hq hz
  go_enter Try.func30, Try.ntmps30
  go_wp2_with fail
  have S0 : Hid (St W _ (thRO W p g rest bad :: thObj (w.heap.size + 1) (.cells #[.int .i64 0, .int .i64 0, .int .i64 0, .int .i64 0] 23 (0, 0)) :: thObj w.heap.size (.cells #[.int .i64 0, .int .i64 0, .int .i64 0, .int .i64 0] 23 (0, 0)) :: L)) := ((H.out.objN (.cells #[.int .i64 0, .int .i64 0, .int .i64 0, .int .i64 0] 23) w.heap.size rfl).objN (.cells #[.int .i64 0, .int .i64 0, .int .i64 0, .int .i64 0] 23) (w.heap.size + 1) (by simp)).pull (A := [_, _])
  clear H
  refine wp_loop_rounds 5 ?_
  rw [rounds_succ]
  go_wp2_with fail
  (have hcall := St.readNumO S0.out (by have h3 := Hl.out.1; have h4 := Hl.out.2.1; have h5 := Hl.out.2.2; omega); (rw [E0.out] at hcall); (refine hcall.mono ?_); clear hcall S0; (rintro e w1 ⟨rfl, hS⟩); (have T := Lib.hid hS); (obtain ⟨hl1, hc1, hf1⟩ := T.out.cellsN 1 rfl); clear hS; (go_wp2_with fail); (have S1 := Lib.hid (((T.out.pull (A := [_])).setObj 0 (.int .i64 (m0 : Nat))).pull (A := [_]))); clear T hl1 hc1 hf1)
  rw [rounds_succ]
  go_wp2_with fail
  (have hcall := St.readNumO S1.out (by have h3 := Hl.out.1; have h4 := Hl.out.2.1; have h5 := Hl.out.2.2; omega); (rw [E1.out] at hcall); (refine hcall.mono ?_); clear hcall S1; (rintro e w2 ⟨rfl, hS⟩); (have T := Lib.hid hS); (obtain ⟨hl1, hc1, hf1⟩ := T.out.cellsN 1 rfl); clear hS; (go_wp2_with fail); (have S2 := Lib.hid (((T.out.pull (A := [_])).setObj 1 (.int .i64 (m1 : Nat))).pull (A := [_]))); clear T hl1 hc1 hf1)
  rw [rounds_succ]
  go_wp2_with fail
  (have hcall := St.readNumO S2.out (by have h3 := Hl.out.1; have h4 := Hl.out.2.1; have h5 := Hl.out.2.2; omega); (rw [E2.out] at hcall); (refine hcall.mono ?_); clear hcall S2; (rintro e w3 ⟨rfl, hS⟩); (have T := Lib.hid hS); (obtain ⟨hl1, hc1, hf1⟩ := T.out.cellsN 1 rfl); clear hS; (go_wp2_with fail); (have S3 := Lib.hid (((T.out.pull (A := [_])).setObj 2 (.int .i64 (m2 : Nat))).pull (A := [_]))); clear T hl1 hc1 hf1)
  rw [rounds_succ]
  go_wp2_with fail
  (have hcall := St.readNumO S3.out (by have h3 := Hl.out.1; have h4 := Hl.out.2.1; have h5 := Hl.out.2.2; omega); (rw [E3.out] at hcall); (refine hcall.mono ?_); clear hcall S3; (rintro e w4 ⟨rfl, hS⟩); (have T := Lib.hid hS); (obtain ⟨hl1, hc1, hf1⟩ := T.out.cellsN 1 rfl); clear hS; (go_wp2_with fail); (have S4 := Lib.hid (((T.out.pull (A := [_])).setObj 3 (.int .i64 (m3 : Nat))).pull (A := [_]))); clear T hl1 hc1 hf1)
  rw [rounds_succ]
  obtain ⟨w5, hw5⟩ : ∃ w5, w5 = w4.setCell ⟨w.heap.size + 1, 3, none⟩ (.int .i64 (m3 : Nat)) := ⟨_, rfl⟩
  have S5 : Hid (St W w5 (thRO W p g r4 b4 :: thObj (w.heap.size + 1) (.cells #[.int .i64 (m0 : Nat), .int .i64 (m1 : Nat), .int .i64 (m2 : Nat), .int .i64 (m3 : Nat)] 23 (0, 0)) :: thObj w.heap.size (.cells #[.int .i64 0, .int .i64 0, .int .i64 0, .int .i64 0] 23 (0, 0)) :: L)) := by
    rw [hw5]; exact S4.out
  rw [← hw5]
  clear S4 hw5
  obtain ⟨hl1, hc1, hf1⟩ := S5.out.cellsN 1 rfl
  go_wp2_with fail
  refine (Hq.out _).mono ?_
  rintro e w6 ⟨rfl, hb⟩
  have S6 := Lib.hid (S5.out.grow hb)
  clear hb S5 hl1 hc1 hf1
  cases z with
  | true =>
    obtain ⟨hl1, hc1, hf1⟩ := S6.out.cellsN 1 rfl
    obtain ⟨hl2, hc2, hf2⟩ := S6.out.cellsN 2 rfl
    go_wp2_with fail
    have S7 := Lib.hid ((((((S6.out.pull (A := [_, _])).setObj 0 (.int .i64 (m0 : Nat))).setObj 1 (.int .i64 (m1 : Nat))).setObj 2 (.int .i64 (m2 : Nat))).setObj 3 (.int .i64 (m3 : Nat))).drop)
    exact bodyPost_ret (v := .agg #[.int .i64 (m0 : Nat), .int .i64 (m1 : Nat), .int .i64 (m2 : Nat), .int .i64 (m3 : Nat)]) (by simp only [results, Try.results30]; go_simp) rfl ⟨rfl, (S7.out.perm (List.Perm.swap _ _ _)).drop⟩
  | false =>
    go_wp2_with fail
    refine (St.badO S6.out).mono ?_
    rintro e w7 ⟨rfl, hS⟩
    have S7 := Lib.hid hS
    clear S6 hS
    obtain ⟨hl1, hc1, hf1⟩ := S7.out.cellsN 1 rfl
    obtain ⟨hl2, hc2, hf2⟩ := S7.out.cellsN 2 rfl
    go_wp2_with fail
    have S8 := Lib.hid ((((((S7.out.pull (A := [_, _])).setObj 0 (.int .i64 (m0 : Nat))).setObj 1 (.int .i64 (m1 : Nat))).setObj 2 (.int .i64 (m2 : Nat))).setObj 3 (.int .i64 (m3 : Nat))).drop)
    exact bodyPost_ret (v := .agg #[.int .i64 (m0 : Nat), .int .i64 (m1 : Nat), .int .i64 (m2 : Nat), .int .i64 (m3 : Nat)]) (by simp only [results, Try.results30]; go_simp) rfl ⟨rfl, (S8.out.perm (List.Perm.swap _ _ _)).drop⟩
end Go.Proofs.Ytbkagefapmnojaa
