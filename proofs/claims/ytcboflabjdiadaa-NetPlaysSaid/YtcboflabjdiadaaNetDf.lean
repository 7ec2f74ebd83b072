/- The contract of DeleteFunc at Drop's function. -/
import Derived.Test.YtcboflabjdiadaaNetDrop
namespace Go.Proofs.Ytcboflabjdiadaa
open Go.RowKit

theorem msR_put {l : List Ms} {i : Nat} (hi : i < l.length) (m : Ms) : msR (l.set i m) = ((((msR l).set (i * 4) (.int .i64 m.f)).set (i * 4 + 1) (.int .i64 m.t)).set (i * 4 + 2) (.slice m.ao m.bs.length m.cap)).set (i * 4 + 3) (.bool m.sp) := by
  have e : l = l.take i ++ l[i] :: l.drop (i + 1) := by rw [← List.drop_eq_getElem_cons hi, List.take_append_drop]
  have e1 : l.set i m = l.take i ++ m :: l.drop (i + 1) := by
    rw [List.set_eq_take_append_cons_drop]; simp only [hi, if_true]
  have hl : (msR (l.take i)).length = i * 4 := by rw [msR_length, List.length_take, Nat.min_eq_left (by omega)]
  have hR : msR l = msR (l.take i) ++ (msV l[i] ++ msR (l.drop (i + 1))) := (congrArg msR e).trans (by rw [msR_append]; rfl)
  have hs : ∀ (r : List Value) (j : Nat) (v : Value), (msR (l.take i) ++ r).set (i * 4 + j) v = msR (l.take i) ++ r.set j v := fun r j v => by
    rw [List.set_append_right _ _ (by omega), hl, Nat.add_sub_cancel_left]
  have h0 : (msR (l.take i) ++ (msV l[i] ++ msR (l.drop (i + 1)))).set (i * 4) (.int .i64 m.f) = msR (l.take i) ++ (msV l[i] ++ msR (l.drop (i + 1))).set 0 (.int .i64 m.f) := hs _ 0 _
  rw [e1, msR_append, hR, h0, hs, hs, hs]
  rfl
/-- The row, cut behind the first i, the rest made nothing. -/
theorem cleared {w : World} {base g cap i : Nat} {X : List Ms} (h : w.ownsRow base 59 4 (.slice (some ⟨g, 0, none⟩) X.length cap) X.length (msR X)) (hi : i ≤ X.length) :
    (w.setCells g (i * 4) (Builtin.zeroCells zero4 (X.length - i)).toList).ownsRow base 59 4 (.slice (some ⟨g, 0, none⟩) i cap) i (msR (X.take i)) ∧ Keeps w (w.setCells g (i * 4) (Builtin.zeroCells zero4 (X.length - i)).toList) (fun x => x = g) := by
  have hcell : ∀ j, j < X.length * 4 → w.cell? ⟨g, j, none⟩ = (msR X)[j]? := fun j hj => by simpa using h.cellAt j hj
  have hml := msR_length X
  rcases h.2 with ⟨hv, h0⟩ | ⟨g', c, cur, hv, hb, hh, h1, h2, h3, h4⟩
  · cases hv
  · simp only [Value.slice.injEq, Option.some.injEq, Addr.mk.injEq, and_true, true_and] at hv
    obtain ⟨rfl, rfl⟩ := hv
    obtain ⟨c2, hc2, e2⟩ := block_setCells g 59 (0, 0) (Builtin.zeroCells zero4 (X.length - i)).toList (i * 4) _ cur hh
    have hti : (X.take i).length = i := by rw [List.length_take, Nat.min_eq_left hi]
    refine ⟨owns_of_cells hb hc2 (by omega) h2 (by omega) (by rw [msR_length, hti]) ?_, keeps_setCellsN _ g _ _⟩
    intro j hj
    have hj2 : j < i * 4 := by rw [msR_length, hti] at hj; exact hj
    rw [World.cell?_setCells_out g _ _ _ _ (fun _ _ => .inl hj2), hcell j (by omega), ← List.getElem?_eq_getElem]
    have e : msR X = msR (X.take i) ++ msR (X.drop i) := by rw [← msR_append, List.take_append_drop]
    rw [e, List.getElem?_append_left hj]
/-- The messages that stay. -/
def keptM (l : List Int) (L : List Ms) : List Ms := L.filter fun m => !hits l m
theorem keptM_none {l : List Int} {L : List Ms} (h : ∀ j, (hj : j < L.length) → hits l L[j] = false) : keptM l L = L := by
  unfold keptM
  rw [List.filter_eq_self]
  intro m hm
  obtain ⟨j, hj, rfl⟩ := List.mem_iff_getElem.1 hm
  rw [h j hj]; rfl
theorem first_hit {l : List Int} {L : List Ms} : (∀ j, (hj : j < L.length) → hits l L[j] = false) ∨ ∃ z, ∃ hz : z < L.length, hits l L[z] = true ∧ ∀ j, (hj : j < L.length) → j < z → hits l L[j] = false := by
  induction L with
  | nil => exact .inl fun j hj => absurd hj (Nat.not_lt_zero _)
  | cons m r ih =>
    by_cases hm : hits l m = true
    · exact .inr ⟨0, by simp, hm, fun j _ h0 => absurd h0 (Nat.not_lt_zero _)⟩
    · have hm2 : hits l m = false := by simpa using hm
      rcases ih with h | ⟨z, hz, h1, h2⟩
      · left
        intro j hj
        cases j with
        | zero => exact hm2
        | succ j => exact h j (by simpa using hj)
      · right
        refine ⟨z + 1, by simpa using hz, h1, fun j hj hjz => ?_⟩
        cases j with
        | zero => exact hm2
        | succ j => exact h2 j (by simpa using hj) (by omega)
def DfPost (base g cap : Nat) (l : List Int) (L : List Ms) (w : World) (e : Ending) (w' : World) : Prop := ∃ n : Nat, n = (keptM l L).length ∧ e = .returned (.slice (some ⟨g, 0, none⟩) n cap) ∧ w'.ownsRow base 59 4 (.slice (some ⟨g, 0, none⟩) n cap) n (msR (keptM l L)) ∧ Keeps w w' (fun x => x = g)
set_option maxRecDepth 20000 in
set_option maxHeartbeats 4000000 in
theorem deleteFunc_any (base g cap : Nat) (L : List Ms) (B : Nat) (no : Option Addr) (nc : Nat) (l : List Int) (w : World) (h : w.ownsRow base 59 4 (.slice (some ⟨g, 0, none⟩) L.length cap) L.length (msR L)) (hN : ∀ w', Keeps w w' (fun x => x = g) → IntsAt w' no l ∧ w'.cell? ⟨B, 0, none⟩ = some (.slice no l.length nc)) (hm : l.length ≤ 9223372036854775807) (hL : L.length ≤ 1024) :
    Calls Try.prog 35 #[.slice (some ⟨g, 0, none⟩) L.length cap, .func (.func 36) #[] #[.pointer (some ⟨B, 0, none⟩)]] w (DfPost base g cap l L w) := by
  have hNb : ∀ w', Below w.heap.size w w' → IntsAt w' no l ∧ w'.cell? ⟨B, 0, none⟩ = some (.slice no l.length nc) := fun w' hb => hN w' (keeps_same0 hb _)
  have hcap : L.length ≤ cap ∧ cap ≤ 9223372036854775807 := by
    rcases h.2 with ⟨hv, h0⟩ | ⟨g', c, cur, hv, -, -, h1, h2, -⟩
    · cases hv
    · simp only [Value.slice.injEq] at hv
      obtain ⟨-, -, rfl⟩ := hv
      unfold maxLen at h2
      exact ⟨h1, by omega⟩
  obtain ⟨hlc, hcm⟩ := hcap
  rcases first_hit (l := l) (L := L) with hno | ⟨z, hz, hzh, hzn⟩
  · have Hif := Lib.hid (indexFunc_no g cap L B no nc l w (owns_rowAt h) hNb hm hL hno)
    have Hk := Lib.hid (keptM_none hno)
    have H := Lib.hid h
    clear hno hN hNb h
    unfold DfPost
    go_enter Try.func35, Try.ntmps35
    go_wp2_with fail
    refine Hif.out.mono ?_
    rintro e w1 ⟨rfl, hb⟩
    go_wp2_with fail
    go_ret
    refine ⟨L.length, by rw [Hk.out], rfl, ?_, keeps_same0 hb _⟩
    rw [Hk.out]
    exact (thRow base 59 4 (some ⟨g, 0, none⟩) L.length cap (msR L)).stay H.out (keeps_same0 hb (fun _ => False)) (fun _ _ h => h)
  · have Hif := Lib.hid (indexFunc_yes g cap L B no nc l w (owns_rowAt h) hNb hm hL z hz hzh hzn)
    have H := Lib.hid h
    have HN := Lib.hid hN
    have Hzh := Lib.hid hzh
    have Hzn := Lib.hid hzn
    clear hN hNb h hzh hzn
    unfold DfPost
    go_enter Try.func35, Try.ntmps35
    go_wp2_with fail
    refine Hif.out.mono ?_
    rintro e w1 ⟨rfl, hb⟩
    have hzi : ((z : Int) == -1) = false := by rw [beq_eq_false_iff_ne]; omega
    go_wp2_with fail
    have Hb1 := Lib.hid hb
    clear hb
    go_loopw [5, 6, 7] (fun i j _ wr => ∃ (n k : Nat) (X : List Ms), i = .int .i64 n ∧ j = .int .i64 k ∧ n < k ∧ k ≤ L.length ∧ Hid (X.length = L.length ∧ X.take n = keptM l (L.take k) ∧ X.drop k = L.drop k) ∧ Hid (wr.ownsRow base 59 4 (.slice (some ⟨g, 0, none⟩) X.length cap) X.length (msR X)) ∧ Hid (Keeps w wr (fun x => x = g))) (fun _ j _ _ => L.length - (intOf j).toNat)
    case atStart =>
      refine ⟨z, z + 1, L, rfl, rfl, by omega, by omega, ⟨rfl, ?_, rfl⟩, (thRow base 59 4 (some ⟨g, 0, none⟩) L.length cap (msR L)).stay H.out (keeps_same0 Hb1.out (fun _ => False)) (fun _ _ h => h), keeps_same0 Hb1.out _⟩
      rw [List.take_succ_eq_append_getElem hz]
      unfold keptM
      rw [List.filter_append, List.filter_cons]
      simp only [Hzh.out, Bool.not_true, Bool.false_eq_true, if_false, List.filter_nil, List.append_nil]
      symm
      rw [List.filter_eq_self]
      intro m hm
      obtain ⟨j, hj, rfl⟩ := List.mem_iff_getElem.1 hm
      rw [List.length_take] at hj
      rw [List.getElem_take, Hzn.out j (by omega) (by omega)]; rfl
    case round =>
      obtain ⟨n, k, X, rfl, rfl, hnk, hkL, HX, HR, HK⟩ := hrel
      clear Hb1 Hif
      have hXL := HX.out.1
      have hsz := HK.out.size
      by_cases hlt : k < L.length
      · have hXk : X[k]'(by omega) = L[k] := by
          have := HX.out.2.2
          rw [List.drop_eq_getElem_cons (by omega), List.drop_eq_getElem_cons hlt] at this
          exact (List.cons.inj this).1
        obtain ⟨c0, c1, c2, c3⟩ := (owns_rowAt HR.out).2 k (by omega)
        have hgl := (owns_rowAt HR.out).1
        obtain ⟨f, t, ao, bc, bs, sp, hq⟩ : ∃ f t ao cap bs sp, (⟨f, t, ao, cap, bs, sp⟩ : Ms) = L[k] := ⟨_, _, _, _, _, _, rfl⟩
        rw [hXk, ← hq] at c0 c1 c2 c3
        simp only at c0 c1 c2 c3
        obtain ⟨b, hb⟩ : ∃ b, hits l L[k] = b := ⟨_, rfl⟩
        have Hq := Lib.hid hq
        have HXL := Lib.hid hXL
        clear hq
        have hk2 : keptM l (L.take (k + 1)) = keptM l (L.take k) ++ (if b then [] else [L[k]]) := by
          unfold keptM
          rw [List.take_succ_eq_append_getElem hlt, List.filter_append, List.filter_cons, hb]
          cases b <;> rfl
        have Hk2 := Lib.hid hk2
        have Hb := Lib.hid hb
        clear hk2 hb hXk hXL
        cases b with
        | true =>
          go_wp2_with fail
          have HK2 : Keeps w (wr.alloc (.cells #[.int .i64 f, .int .i64 t, .slice ao bs.length bc, .bool sp] 59)) (fun x => x = g) := HK.out.trans (keeps_same0 (below_allocN _ _) (fun x => x = g)) (fun _ h => h) (fun _ _ h => h)
          refine (drop1_any B no nc l ⟨f, t, ao, bc, bs, sp⟩ _ (HN.out _ HK2).1 hm (HN.out _ HK2).2 true (by rw [Hq.out]; exact Hb.out)).mono ?_
          rintro e w2 ⟨rfl, hb⟩
          have hg2 : Below wr.heap.size wr w2 := (below_allocN _ _).trans (hb.mono (by simp))
          go_wp2_with fail
          go_roundw
          case rel => exact ⟨n, k + 1, X, rfl, by go_num, by omega, by omega, ⟨HX.out.1, by rw [HX.out.2.1, Hk2.out]; simp, by rw [← List.drop_drop, HX.out.2.2, List.drop_drop]⟩, Lib.hid ((thRow base 59 4 (some ⟨g, 0, none⟩) X.length cap (msR X)).stay HR.out (keeps_same0 hg2 (fun _ => False)) (fun _ _ h => h)), Lib.hid (HK.out.trans (keeps_same0 hg2 (fun x => x = g)) (fun _ h => h) (fun _ _ h => h))⟩
          case measure => simp [intOf]; omega
        | false =>
          go_wp2_with fail
          have HK2 : Keeps w (wr.alloc (.cells #[.int .i64 f, .int .i64 t, .slice ao bs.length bc, .bool sp] 59)) (fun x => x = g) := HK.out.trans (keeps_same0 (below_allocN _ _) (fun x => x = g)) (fun _ h => h) (fun _ _ h => h)
          refine (drop1_any B no nc l ⟨f, t, ao, bc, bs, sp⟩ _ (HN.out _ HK2).1 hm (HN.out _ HK2).2 false (by rw [Hq.out]; exact Hb.out)).mono ?_
          rintro e w2 ⟨rfl, hb⟩
          have hg2 : Below wr.heap.size wr w2 := (below_allocN _ _).trans (hb.mono (by simp))
          have q0 := (hb.cell (p := ⟨wr.heap.size, 0, none⟩) (by simp)).trans (by go_simp : _ = some (.int .i64 f))
          have q1 := (hb.cell (p := ⟨wr.heap.size, 1, none⟩) (by simp)).trans (by go_simp : _ = some (.int .i64 t))
          have q2 := (hb.cell (p := ⟨wr.heap.size, 2, none⟩) (by simp)).trans (by go_simp : _ = some (.slice ao bs.length bc))
          have q3 := (hb.cell (p := ⟨wr.heap.size, 3, none⟩) (by simp)).trans (by go_simp : _ = some (.bool sp))
          have hown2 := (thRow base 59 4 (some ⟨g, 0, none⟩) X.length cap (msR X)).stay HR.out (keeps_same0 hg2 (fun _ => False)) (fun _ _ h => h)
          obtain ⟨d0, d1, d2, d3⟩ := (owns_rowAt hown2).2 n (by have := HXL.out; omega)
          have e0 := by simpa using World.ownsRow.frozenAt hown2 (n * 4)
          have e1 := by simpa using World.ownsRow.frozenAt hown2 (n * 4 + 1)
          have e2 := by simpa using World.ownsRow.frozenAt hown2 (n * 4 + 2)
          have e3 := by simpa using World.ownsRow.frozenAt hown2 (n * 4 + 3)
          have hnL : n < L.length := by omega
          have hnLi : (n : Int) < L.length := by omega
          have HO2 := Lib.hid hown2
          have HG2 := Lib.hid hg2
          clear hb hown2 hg2
          go_wp2_with fail
          have hnX : n < X.length := by have := HXL.out; omega
          have hown3 := (World.ownsRow.stored (World.ownsRow.stored (World.ownsRow.stored (World.ownsRow.stored HO2.out (n * 4) (.int .i64 f)).1 (n * 4 + 1) (.int .i64 t)).1 (n * 4 + 2) (.slice ao bs.length bc)).1 (n * 4 + 3) (.bool sp)).1
          have hput := msR_put hnX ⟨f, t, ao, bc, bs, sp⟩
          simp only at hput
          rw [← hput] at hown3
          have HO3 := Lib.hid hown3
          clear hown3 hput
          go_roundw
          case rel =>
            refine ⟨n + 1, k + 1, X.set n ⟨f, t, ao, bc, bs, sp⟩, by go_num, by go_num, by omega, by omega, ⟨by rw [List.length_set]; exact HXL.out, ?_, ?_⟩, ?_, ?_⟩
            · rw [Hk2.out, List.take_succ_eq_append_getElem (by rw [List.length_set]; exact hnX), List.take_set_of_le (Nat.le_refl _), HX.out.2.1, List.getElem_set_self, Hq.out]
              rfl
            · rw [List.drop_set_of_lt (by omega), ← List.drop_drop, HX.out.2.2, List.drop_drop]
            · rw [List.length_set]; simpa using HO3
            · refine Lib.hid ?_
              have k1 : Keeps w w2 (fun x => x = g) := HK.out.trans (keeps_same0 HG2.out (fun x => x = g)) (fun _ h => h) (fun _ _ h => h)
              exact (((k1.trans (Keeps.set _ ⟨g, n * 4, none⟩ _) (fun _ h => h) (fun _ _ h => h)).trans (Keeps.set _ ⟨g, n * 4 + 1, none⟩ _) (fun _ h => h) (fun _ _ h => h)).trans (Keeps.set _ ⟨g, n * 4 + 2, none⟩ _) (fun _ h => h) (fun _ _ h => h)).trans (Keeps.set _ ⟨g, n * 4 + 3, none⟩ _) (fun _ h => h) (fun _ _ h => h)
          case measure => simp [intOf]; omega
      · obtain rfl : k = L.length := by omega
        have hfin := cleared HR.out (i := n) (by omega)
        have hsome : ∀ j, j < (X.length - n) * zero4.size → (wr.cell? ⟨g, n * 4 + j, none⟩).isSome = true := fun j hj => by
          have hj4 : j < (X.length - n) * 4 := hj
          have hce : wr.cell? ⟨g, n * 4 + j, none⟩ = (msR X)[n * 4 + j]? := by simpa using HR.out.cellAt (n * 4 + j) (by omega)
          rw [hce, List.getElem?_eq_getElem (by rw [msR_length]; omega)]
          rfl
        have hfro : ∀ j, j < (X.length - n) * zero4.size → wr.frozen? ⟨g, n * 4 + j, none⟩ = false := fun j hj => by simpa using HR.out.frozenAt (n * 4 + j)
        rw [hXL] at hfin hsome hfro
        have hclear := run_clear_rows (P := Try.prog) wr 54 59 0 (.agg zero4) Try.underlying54 zeroUnder (by decide) g (n * 4) (L.length - n) (cap - n) (by omega) hsome hfro
        have hXk : X.take n = keptM l L := by rw [HX.out.2.1, List.take_length]
        have hkl : n = (keptM l L).length := by rw [← hXk, List.length_take]; omega
        rw [hXk] at hfin
        have HF := Lib.hid hfin
        have HXk := Lib.hid hkl
        have hncap : ¬ cap = n := by omega
        have hncap2 : n ≤ cap := by omega
        have hnl2 : n ≤ L.length := by omega
        have hni : (n : Int) ≤ L.length := by omega
        have hnc : (n : Int) ≤ cap := by omega
        clear hfin hsome hfro hXk hkl hXL HX
        go_wp2_with fail
        go_ret
        exact ⟨n, HXk.out, rfl, HF.out.1, HK.out.trans HF.out.2 (fun _ h => h) (fun _ _ h => h)⟩
end Go.Proofs.Ytcboflabjdiadaa
