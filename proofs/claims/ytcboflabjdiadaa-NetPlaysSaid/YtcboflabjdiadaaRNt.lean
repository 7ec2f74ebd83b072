/- The document's takes. -/
import Derived.Test.YtcboflabjdiadaaRNs
namespace Go.Proofs.Ytcboflabjdiadaa
open Go.RowKit

def RTakePost (W : World) (R : List Th) (p : Nat) (l : List Ms) (i : Nat) (hi : i < l.length) (e : Ending) (w' : World) : Prop := ∃ ro' rc', e = .returned (.tuple #[msA l[i], .bool true]) ∧ St W w' (thD W.heap.size l[i] :: (netrefL W.heap.size p ro' rc' (l.eraseIdx i) ++ R))
theorem rtakes_no (W w : World) (R : List Th) (p : Nat) (ro : Option Addr) (rc : Nat) (pick : Int) (h : St W w (netrefL W.heap.size p ro rc [] ++ R)) :
    Calls Try.prog 41 #[.pointer (some ⟨p, 0, none⟩), .int .i64 pick] w fun e w' => e = .returned (.tuple #[.agg #[.int .i64 0, .int .i64 0, .slice none 0 0, .bool false], .bool false]) ∧ Below w.heap.size w w' := by
  have hT : (thNetref W.heap.size p ro rc []).T w := h.head
  obtain ⟨c0, f0⟩ := cell_of_one hT.1
  have hplt := lt_of_block hT.1
  clear h hT
  go_enter Try.func41, Try.ntmps41
  go_wp2_with fail
  refine bodyPost_ret (v := .tuple #[.agg #[.int .i64 0, .int .i64 0, .slice none 0 0, .bool false], .bool false]) (by simp only [results, Try.results41]; go_simp) rfl ⟨rfl, (by repeat (first | with_reducible exact Below.refl _ _ | with_reducible assumption | with_reducible refine Below.drew ?_ | with_reducible refine below_drawn ?_ | with_reducible refine Below.alloc ?_ (by first | omega | (simp; done) | (simp; omega) | (simp at *; omega)) _ | with_reducible refine Below.setCell ?_ (by first | omega | (simp; done) | (simp; omega) | (simp at *; omega)) _ | with_reducible refine Below.trans ?_ (Below.mono (by assumption) (by first | omega | (simp; done) | (simp; omega) | (simp at *; omega)))))⟩
/-- The cells of messages behind a row's address. -/
theorem row_take {w w0 : World} {base g rc : Nat} {l : List Ms} (h : w.ownsRow base 72 4 (.slice (some ⟨g, 0, none⟩) l.length rc) l.length (msR l)) (hg : g < w.heap.size) (b : Below w.heap.size w w0) (k : Nat) : ∀ ad, (some ⟨g, 0, none⟩ : Option Addr) = some ad → ∀ j u, (msR (l.take k))[j]? = some u → w0.cell? (ad.add j) = some u := by
  intro ad e j u hu
  obtain rfl := Option.some.inj e
  have hz : msR l = msR (l.take k) ++ msR (l.drop k) := by rw [← msR_append, List.take_append_drop]
  have hj := (List.getElem?_eq_some_iff.1 hu).1
  have hj2 : j < l.length * 4 := by rw [msR_length, List.length_take] at hj; omega
  rw [add_none, Nat.zero_add, b.cell (p := ⟨g, _, none⟩) hg, h.cellAt j hj2, hz, List.getElem?_append_left hj, hu]
theorem row_drop {w w0 : World} {base g rc : Nat} {l : List Ms} (h : w.ownsRow base 72 4 (.slice (some ⟨g, 0, none⟩) l.length rc) l.length (msR l)) (hg : g < w.heap.size) (b : Below w.heap.size w w0) (k : Nat) (ao : Option Addr) (hao : k < l.length → ao = some ⟨g, k * 4, none⟩) : ∀ ad, ao = some ad → ∀ j u, (msR (l.drop k))[j]? = some u → w0.cell? (ad.add j) = some u := by
  intro ad e j u hu
  by_cases hk : k < l.length
  · rw [hao hk] at e
    obtain rfl := Option.some.inj e
    have hz : msR l = msR (l.take k) ++ msR (l.drop k) := by rw [← msR_append, List.take_append_drop]
    have hj := (List.getElem?_eq_some_iff.1 hu).1
    have hl : (msR (l.take k)).length = k * 4 := by rw [msR_length, List.length_take, Nat.min_eq_left (by omega)]
    have hj2 : k * 4 + j < l.length * 4 := by rw [msR_length, List.length_drop] at hj; omega
    rw [add_none, b.cell (p := ⟨g, _, none⟩) hg, h.cellAt _ hj2, hz, List.getElem?_append_right (by omega), hl, Nat.add_sub_cancel_left, hu]
  · rw [List.drop_eq_nil_of_le (by omega)] at hu
    simp [msR] at hu
/-- The document's row without a message, in new memory. -/
theorem St.rtook {W w w3 : World} {R : List Th} {p rc n rc2 : Nat} {ro ro2 : Option Addr} {l : List Ms} {i : Nat} (h : St W w (netrefL W.heap.size p ro rc l ++ R)) (hi : i < l.length) (k : Below w.heap.size w w3) (hr : w3.ownsRow w.heap.size 72 4 (.slice ro2 n rc2) n (msR (l.eraseIdx i))) (hn : n = (l.eraseIdx i).length) :
    St W (w3.setCell ⟨p, 0, none⟩ (.slice ro2 n rc2)) (thD W.heap.size l[i] :: (netrefL W.heap.size p ro2 rc2 (l.eraseIdx i) ++ R)) := by
  subst hn
  have hT : (thNetref W.heap.size p ro rc l).T w := h.head
  have hp := lt_of_block hT.1
  have hro : ∀ a, ro2 = some a → w.heap.size ≤ a.block := by
    intro a e
    rcases hr.2 with ⟨hv, -⟩ | ⟨g, c, cur, hv, hg, -⟩
    · simp only [Value.slice.injEq] at hv; rw [hv.1] at e; cases e
    · simp only [Value.slice.injEq] at hv
      rw [hv.1] at e
      cases e
      exact hg
  have hh : w3.heap[p]? = some (.cells #[.slice ro l.length rc] 50 (0, 0)) := (k.block p hp).trans hT.1
  have S := h.step (t' := thNetref W.heap.size p ro2 rc2 (l.eraseIdx i)) ((keeps_same0 k (thNetref W.heap.size p ro rc l).F).trans (Keeps.set w3 ⟨p, 0, none⟩ (.slice ro2 (l.eraseIdx i).length rc2)) (fun _ h => h) (fun _ _ h => .inl h))
    ⟨set_one hh, owns_weak (ownsRow_setCell_other hr (fun e => by
      cases ro2 with
      | none => cases e
      | some a => simp only [Value.ownBlock, Option.some.injEq] at e; have := hro a rfl; omega) _) h.b.size, fun a ha => by have := hro a ha; omega⟩ (fun x hx => by
      rcases hx with hx | ⟨a, ha, hx⟩
      · exact .inl (.inl hx)
      · exact .inr (hx ▸ hro a ha))
  refine S.perm ?_
  show List.Perm (_ :: (l.map (thD W.heap.size) ++ R)) (_ :: _ :: ((l.eraseIdx i).map (thD W.heap.size) ++ R))
  exact (List.Perm.cons _ (((erase_perm hi).map (thD W.heap.size)).append_right R)).trans (List.Perm.swap _ _ _)
set_option maxRecDepth 20000 in
set_option maxHeartbeats 4000000 in
theorem rtakes_yes (W w : World) (R : List Th) (p : Nat) (ro : Option Addr) (rc : Nat) (l : List Ms) (pick : Int) (i : Nat) (hi : i < l.length) (hpi : i = pickOf l.length pick) (h : St W w (netrefL W.heap.size p ro rc l ++ R)) (hm : l.length ≤ 1024) :
    Calls Try.prog 41 #[.pointer (some ⟨p, 0, none⟩), .int .i64 pick] w (RTakePost W R p l i hi) := by
  obtain ⟨i0, hii, hz0, hz1, hz2⟩ := info_parts itemInfo
  have hT : (thNetref W.heap.size p ro rc l).T w := h.head
  obtain ⟨g, rfl, hg⟩ := row_form hT.2.1 (by omega)
  have hgp : g ≠ p := hT.2.2 _ rfl
  obtain ⟨c0, f0⟩ := cell_of_one hT.1
  have hplt := lt_of_block hT.1
  have hrc : l.length ≤ rc ∧ rc ≤ 9223372036854775807 := by
    rcases hT.2.1.2 with ⟨hv, -⟩ | ⟨g', c, cur, hv, hb, hh, h1, h2, -⟩
    · cases hv
    · simp only [Value.slice.injEq] at hv
      unfold maxLen at h2
      omega
  have H := Lib.hid h
  have hc : ∀ j, j < 4 → w.cell? ⟨g, i * 4 + j, none⟩ = (msV l[i])[j]? := fun j hj => by rw [← msR_get l i hi j hj]; simpa using hT.2.1.cellAt (i * 4 + j) (by omega)
  obtain ⟨f, t, ao, cap, bs, sp, hq⟩ : ∃ f t ao cap bs sp, (⟨f, t, ao, cap, bs, sp⟩ : Ms) = l[i] := ⟨_, _, _, _, _, _, rfl⟩
  rw [← hq] at hc
  have c1 := hc 0 (by omega)
  have c2 := hc 1 (by omega)
  have c3 := hc 2 (by omega)
  have c4 := hc 3 (by omega)
  simp only [msV, List.getElem?_cons_zero, List.getElem?_cons_succ, Nat.add_zero] at c1 c2 c3 c4
  have Hq := Lib.hid hq
  obtain ⟨n, hn⟩ : ∃ n, n = l.length := ⟨_, rfl⟩
  have hn0 : ¬ (n : Int) = 0 := by omega
  have hne : ((n : Int) == 0) = false := by rw [beq_eq_false_iff_ne]; exact hn0
  obtain ⟨m, hm0⟩ : ∃ m : Nat, m = (max 0 pick).toNat := ⟨_, rfl⟩
  have hmax : max (0 : Int) pick = m := by rw [hm0]; omega
  have hp : i = m % n := by rw [hpi, hn]; unfold pickOf; rw [← hm0]
  have ht : ((m : Int).tmod (n : Int)) = (i : Int) := by rw [Int.tmod_eq_emod_of_nonneg (by omega), hp]; rfl
  have hi63 : (i : Int) < n := by omega
  have hi0 : (0 : Int) ≤ i := by omega
  have hrow := hT.2.1
  have HT : Hid (∀ w0, Below w.heap.size w w0 → ∀ ad, (some ⟨g, 0, none⟩ : Option Addr) = some ad → ∀ j u, (msR (l.take i))[j]? = some u → w0.cell? (ad.add j) = some u) := Lib.hid (fun w0 b => row_take hrow hg b i)
  have HD : Hid (∀ (w0 : World) (ao : Option Addr), Below w.heap.size w w0 → (i + 1 < l.length → ao = some ⟨g, (i + 1) * 4, none⟩) → ∀ ad, ao = some ad → ∀ j u, (msR (l.drop (i + 1)))[j]? = some u → w0.cell? (ad.add j) = some u) := Lib.hid (fun w0 ao b hao => row_drop hrow hg b (i + 1) ao hao)
  have hlk : (msR (l.take i)).length = i * 4 := by rw [msR_length, List.length_take, Nat.min_eq_left (by omega)]
  have hdl : (msR (l.drop (i + 1))).length = (n - (i + 1)) * 4 := by rw [msR_length, List.length_drop, hn]
  have Hlk := Lib.hid hlk
  have Hdl := Lib.hid hdl
  have hin : i < n := by omega
  rw [← hn] at hm hrc c0
  have hrc1 : n ≤ rc := hrc.1
  have hrc2 := hrc.2
  have hirc : (i : Int) ≤ rc := by omega
  have hnl : l.length ≤ n := by omega
  have Hn := Lib.hid hn
  have e9 : IntKind.i64.wrap ((i : Int) + 1) = (i : Int) + 1 := by rw [IntKind.wrap_i64]; omega
  clear h hT hc hq hpi hrow hlk hdl hm0 hp hrc hn
  unfold RTakePost
  by_cases hcc : rc = i + 1
  · subst hcc
    go_enter Try.func41, Try.ntmps41
    go_wp2_with fail
    (refine wp_name fun wa hwa => ?_; have wa_s0 : p < wa.heap.size := (by rw [hwa]; first | omega | (simp; done) | (simp; omega)); have wa_s1 : g < wa.heap.size := (by rw [hwa]; first | omega | (simp; done) | (simp; omega)); have wa_s2 : w.heap.size < wa.heap.size := (by rw [hwa]; first | omega | (simp; done) | (simp; omega)); have wa_s3 : w.heap.size + 1 < wa.heap.size := (by rw [hwa]; first | omega | (simp; done) | (simp; omega)); have wa_c0 : wa.cell? ⟨p, 0, none⟩ = some (.slice (some ⟨g, 0, none⟩) n (i + 1)) := (by rw [hwa]; go_simp); have wa_f0 : wa.frozen? ⟨p, 0, none⟩ = false := (by rw [hwa]; go_simp); have wa_c1 : wa.cell? ⟨w.heap.size, 0, none⟩ = some (.int .i64 0) := (by rw [hwa]; go_simp); have wa_f1 : wa.frozen? ⟨w.heap.size, 0, none⟩ = false := (by rw [hwa]; go_simp); have wa_c2 : wa.cell? ⟨w.heap.size, 1, none⟩ = some (.int .i64 0) := (by rw [hwa]; go_simp); have wa_f2 : wa.frozen? ⟨w.heap.size, 1, none⟩ = false := (by rw [hwa]; go_simp); have wa_c3 : wa.cell? ⟨w.heap.size, 2, none⟩ = some (.slice none 0 0) := (by rw [hwa]; go_simp); have wa_f3 : wa.frozen? ⟨w.heap.size, 2, none⟩ = false := (by rw [hwa]; go_simp); have wa_c4 : wa.cell? ⟨w.heap.size, 3, none⟩ = some (.bool false) := (by rw [hwa]; go_simp); have wa_f4 : wa.frozen? ⟨w.heap.size, 3, none⟩ = false := (by rw [hwa]; go_simp); have wa_c5 : wa.cell? ⟨w.heap.size + 1, 0, none⟩ = some (.int .i64 f) := (by rw [hwa]; go_simp); have wa_c6 : wa.cell? ⟨w.heap.size + 1, 1, none⟩ = some (.int .i64 t) := (by rw [hwa]; go_simp); have wa_c7 : wa.cell? ⟨w.heap.size + 1, 2, none⟩ = some (.slice ao bs.length cap) := (by rw [hwa]; go_simp); have wa_c8 : wa.cell? ⟨w.heap.size + 1, 3, none⟩ = some (.bool sp) := (by rw [hwa]; go_simp); have wa_b : Below w.heap.size w wa := (by rw [hwa]; exact (by repeat (first | with_reducible exact Below.refl _ _ | with_reducible assumption | with_reducible refine Below.drew ?_ | with_reducible refine below_drawn ?_ | with_reducible refine Below.alloc ?_ (by first | omega | (simp; done) | (simp; omega) | (simp at *; omega)) _ | with_reducible refine Below.setCell ?_ (by first | omega | (simp; done) | (simp; omega) | (simp at *; omega)) _ | with_reducible refine Below.trans ?_ (Below.mono (by assumption) (by first | omega | (simp; done) | (simp; omega) | (simp at *; omega)))))); clear hwa)
    have wa_le := wa_b.size
    have v1 : (0 : Int) ≤ (i : Int) + 1 := by omega
    have v2 : (i : Int) + 1 ≤ (n : Int) := by omega
    have v3 : (i : Int) + 1 ≤ ((i + 1 : Nat) : Int) := by omega
    have v4 : (i : Int) ≤ (i : Int) + 1 := by omega
    have v5 : ¬ i + 1 = 0 := by omega
    clear c1 c2 c3 c4 c0 f0
    go_region_law (first | ((refine step_append_any _ (by rfl) (.tmp 31) (.tmp 37) 48 (by rfl) wa.heap.size 72 i0 (.agg #[.int .i64 0, .int .i64 0, .slice none 0 0, .bool false]) 4 48 Try.underlying48 hii hz0 hz1 hz2 rfl (by decide) (.slice (some ⟨wa.heap.size, 0, none⟩) 0 0) 0 [] (by rfl) ?_ (some ⟨g, 0, none⟩) i (i + 1) (msR (l.take i)) (by first | rfl | simp) (fun h => (nomatch h)) Hlk.out ?_ (msR_one _) (by unfold maxLen; omega) (by omega) ?_ ?_); (exact (by first | exact owns_drewA (owns_emptyAt _ _ (by first | rfl | (simp; done)) _ (by first | omega | (simp; done)) _ _) | exact owns_emptyAt _ _ (by first | rfl | (simp; done)) _ (by first | omega | (simp; done)) _ _)); (go_must (exact HT.out _ (by repeat (first | with_reducible exact Below.refl _ _ | with_reducible assumption | with_reducible refine Below.drew ?_ | with_reducible refine below_drawn ?_ | with_reducible refine Below.alloc ?_ (by first | omega | (simp; done) | (simp; omega) | (simp at *; omega)) _ | with_reducible refine Below.setCell ?_ (by first | omega | (simp; done) | (simp; omega) | (simp at *; omega)) _ | with_reducible refine Below.trans ?_ (Below.mono (by assumption) (by first | omega | (simp; done) | (simp; omega) | (simp at *; omega))))))); (focus first | (simp; done) | (simp; omega)); intro vA wA hown hgrow; (have hbA : Below wa.heap.size wa wA := (by (refine below_grown (by repeat (first | with_reducible exact Below.refl _ _ | with_reducible assumption | with_reducible refine Below.drew ?_ | with_reducible refine below_drawn ?_ | with_reducible refine Below.alloc ?_ (by first | omega | (simp; done) | (simp; omega) | (simp at *; omega)) _ | with_reducible refine Below.setCell ?_ (by first | omega | (simp; done) | (simp; omega) | (simp at *; omega)) _ | with_reducible refine Below.trans ?_ (Below.mono (by assumption) (by first | omega | (simp; done) | (simp; omega) | (simp at *; omega))))) (by first | (simp; done) | (simp; omega)) hgrow (fun k hk => ?_); (simp only [Value.ownBlock, Option.some.injEq] at hk); subst hk; first | (simp; done) | (simp; omega)))); (obtain ⟨aoA, cA, rfl, -⟩ := owns_shape hown); (have HA : Hid (wA.ownsRow wa.heap.size 72 4 (.slice aoA i cA) i (msR (l.take i))) := (by rw [Nat.zero_add, List.nil_append] at hown; exact Lib.hid hown)); (rw [Nat.zero_add] at *); (have pA := (hbA.cell (p := ⟨p, 0, none⟩) wa_s0).trans wa_c0); (have pf := (hbA.frozen (p := ⟨p, 0, none⟩) wa_s0).trans wa_f0); (have hsA := hbA.size); (have HbA := Lib.hid hbA); clear hown hgrow hbA) | ((refine step_append_any _ (by rfl) (.tmp 38) (.tmp 45) 48 (by rfl) wa.heap.size 72 i0 (.agg #[.int .i64 0, .int .i64 0, .slice none 0 0, .bool false]) 4 48 Try.underlying48 hii hz0 hz1 hz2 rfl (by decide) (.slice aoA i cA) i (msR (l.take i)) (by rfl) HA.out (some _) (0) (0) (msR (l.drop (i + 1))) (by first | rfl | simp) (fun h => (nomatch h)) (by have := Hdl.out; omega) ?_ (msR_one _) (by unfold maxLen; omega) (by omega) ?_ ?_); (go_must (exact HD.out _ _ (wa_b.trans (HbA.out.mono wa_le)) (fun h => by first | rfl | (exfalso; omega)))); (focus first | omega | (simp; done) | (simp; omega)); intro vB wB hown hgrow; (have hbB : Below wa.heap.size wa wB := (by go_must (refine below_grown HbA.out hsA hgrow (fun k hk => own_block HA.out hk)))); (obtain ⟨aoB, cB, rfl, -⟩ := owns_shape hown); (have pB := (hbB.cell (p := ⟨p, 0, none⟩) wa_s0).trans wa_c0); (have pfB := (hbB.frozen (p := ⟨p, 0, none⟩) wa_s0).trans wa_f0); (have HB : Hid (wB.ownsRow wa.heap.size 72 4 (.slice aoB (i + (0)) cB) (i + (0)) (msR (l.eraseIdx i))) := (by rw [← msR_append, ← List.eraseIdx_eq_take_drop_succ] at hown; exact Lib.hid hown)); (have HbB := Lib.hid hbB); (have hsB := hbB.size); clear hown hgrow hbB) | fail)
    all_goals
      have hlen : i + 0 = (l.eraseIdx i).length := by
        rw [List.length_eraseIdx]
        simp only [hi, if_true]
        have := Hn.out
        omega
      have S0 := (H.out.new wa_b (thFree w.heap.size) wa_s2 (fun x e => by rw [show x = w.heap.size from e]; exact Nat.le_refl _)).perm List.perm_middle.symm
      have S2 := Lib.hid (St.rtook S0 hi HbB.out HB.out hlen)
      obtain ⟨xc, xf⟩ := bcell HbB.out
      have z0 := (xc _ 0 wa_s2).trans wa_c1
      have z1 := (xc _ 1 wa_s2).trans wa_c2
      have z2 := (xc _ 2 wa_s2).trans wa_c3
      have z3 := (xc _ 3 wa_s2).trans wa_c4
      have y0 := (xf _ 0 wa_s2).trans wa_f1
      have y1 := (xf _ 1 wa_s2).trans wa_f2
      have y2 := (xf _ 2 wa_s2).trans wa_f3
      have y3 := (xf _ 3 wa_s2).trans wa_f4
      have q0 := (xc _ 0 wa_s3).trans wa_c5
      have q1 := (xc _ 1 wa_s3).trans wa_c6
      have q2 := (xc _ 2 wa_s3).trans wa_c7
      have q3 := (xc _ 3 wa_s3).trans wa_c8
      have hne1 : p ≠ w.heap.size := by omega
      have hne2 : p ≠ w.heap.size + 1 := by omega
      have hne3 : w.heap.size ≠ p := by omega
      have hne4 : w.heap.size + 1 ≠ p := by omega
      have sB1 : w.heap.size < wB.heap.size := by omega
      clear xc xf HA HB HT HD hlen
      go_wp2_with fail
      have S3 := Lib.hid ((((((S2.out.pull (A := thD W.heap.size l[i] :: netrefL W.heap.size p aoB cB (l.eraseIdx i))).set_free 0 (.int .i64 f)).set_free 1 (.int .i64 t)).set_free 2 (.slice ao bs.length cap)).set_free 3 (.bool sp)).drop)
      refine bodyPost_ret (v := .tuple #[.agg #[.int .i64 f, .int .i64 t, .slice ao bs.length cap, .bool sp], .bool true]) (by simp only [results, Try.results41]; go_simp) rfl ?_
      exact ⟨aoB, cB, by rw [← Hq.out]; rfl, S3.out⟩
  · have hcc2 : i + 1 < rc := by omega
    go_enter Try.func41, Try.ntmps41
    go_wp2_with fail
    (refine wp_name fun wa hwa => ?_; have wa_s0 : p < wa.heap.size := (by rw [hwa]; first | omega | (simp; done) | (simp; omega)); have wa_s1 : g < wa.heap.size := (by rw [hwa]; first | omega | (simp; done) | (simp; omega)); have wa_s2 : w.heap.size < wa.heap.size := (by rw [hwa]; first | omega | (simp; done) | (simp; omega)); have wa_s3 : w.heap.size + 1 < wa.heap.size := (by rw [hwa]; first | omega | (simp; done) | (simp; omega)); have wa_c0 : wa.cell? ⟨p, 0, none⟩ = some (.slice (some ⟨g, 0, none⟩) n (rc)) := (by rw [hwa]; go_simp); have wa_f0 : wa.frozen? ⟨p, 0, none⟩ = false := (by rw [hwa]; go_simp); have wa_c1 : wa.cell? ⟨w.heap.size, 0, none⟩ = some (.int .i64 0) := (by rw [hwa]; go_simp); have wa_f1 : wa.frozen? ⟨w.heap.size, 0, none⟩ = false := (by rw [hwa]; go_simp); have wa_c2 : wa.cell? ⟨w.heap.size, 1, none⟩ = some (.int .i64 0) := (by rw [hwa]; go_simp); have wa_f2 : wa.frozen? ⟨w.heap.size, 1, none⟩ = false := (by rw [hwa]; go_simp); have wa_c3 : wa.cell? ⟨w.heap.size, 2, none⟩ = some (.slice none 0 0) := (by rw [hwa]; go_simp); have wa_f3 : wa.frozen? ⟨w.heap.size, 2, none⟩ = false := (by rw [hwa]; go_simp); have wa_c4 : wa.cell? ⟨w.heap.size, 3, none⟩ = some (.bool false) := (by rw [hwa]; go_simp); have wa_f4 : wa.frozen? ⟨w.heap.size, 3, none⟩ = false := (by rw [hwa]; go_simp); have wa_c5 : wa.cell? ⟨w.heap.size + 1, 0, none⟩ = some (.int .i64 f) := (by rw [hwa]; go_simp); have wa_c6 : wa.cell? ⟨w.heap.size + 1, 1, none⟩ = some (.int .i64 t) := (by rw [hwa]; go_simp); have wa_c7 : wa.cell? ⟨w.heap.size + 1, 2, none⟩ = some (.slice ao bs.length cap) := (by rw [hwa]; go_simp); have wa_c8 : wa.cell? ⟨w.heap.size + 1, 3, none⟩ = some (.bool sp) := (by rw [hwa]; go_simp); have wa_b : Below w.heap.size w wa := (by rw [hwa]; exact (by repeat (first | with_reducible exact Below.refl _ _ | with_reducible assumption | with_reducible refine Below.drew ?_ | with_reducible refine below_drawn ?_ | with_reducible refine Below.alloc ?_ (by first | omega | (simp; done) | (simp; omega) | (simp at *; omega)) _ | with_reducible refine Below.setCell ?_ (by first | omega | (simp; done) | (simp; omega) | (simp at *; omega)) _ | with_reducible refine Below.trans ?_ (Below.mono (by assumption) (by first | omega | (simp; done) | (simp; omega) | (simp at *; omega)))))); clear hwa)
    have wa_le := wa_b.size
    have v1 : (0 : Int) ≤ (i : Int) + 1 := by omega
    have v2 : (i : Int) + 1 ≤ (n : Int) := by omega
    have v3 : (i : Int) + 1 ≤ ((rc : Nat) : Int) := by omega
    have v4 : (i : Int) ≤ (i : Int) + 1 := by omega
    have v5 : ¬ i + 1 = 0 := by omega
    clear c1 c2 c3 c4 c0 f0
    go_region_law (first | ((refine step_append_any _ (by rfl) (.tmp 31) (.tmp 37) 48 (by rfl) wa.heap.size 72 i0 (.agg #[.int .i64 0, .int .i64 0, .slice none 0 0, .bool false]) 4 48 Try.underlying48 hii hz0 hz1 hz2 rfl (by decide) (.slice (some ⟨wa.heap.size, 0, none⟩) 0 0) 0 [] (by rfl) ?_ (some ⟨g, 0, none⟩) i (rc) (msR (l.take i)) (by first | rfl | simp) (fun h => (nomatch h)) Hlk.out ?_ (msR_one _) (by unfold maxLen; omega) (by omega) ?_ ?_); (exact (by first | exact owns_drewA (owns_emptyAt _ _ (by first | rfl | (simp; done)) _ (by first | omega | (simp; done)) _ _) | exact owns_emptyAt _ _ (by first | rfl | (simp; done)) _ (by first | omega | (simp; done)) _ _)); (go_must (exact HT.out _ (by repeat (first | with_reducible exact Below.refl _ _ | with_reducible assumption | with_reducible refine Below.drew ?_ | with_reducible refine below_drawn ?_ | with_reducible refine Below.alloc ?_ (by first | omega | (simp; done) | (simp; omega) | (simp at *; omega)) _ | with_reducible refine Below.setCell ?_ (by first | omega | (simp; done) | (simp; omega) | (simp at *; omega)) _ | with_reducible refine Below.trans ?_ (Below.mono (by assumption) (by first | omega | (simp; done) | (simp; omega) | (simp at *; omega))))))); (focus first | (simp; done) | (simp; omega)); intro vA wA hown hgrow; (have hbA : Below wa.heap.size wa wA := (by (refine below_grown (by repeat (first | with_reducible exact Below.refl _ _ | with_reducible assumption | with_reducible refine Below.drew ?_ | with_reducible refine below_drawn ?_ | with_reducible refine Below.alloc ?_ (by first | omega | (simp; done) | (simp; omega) | (simp at *; omega)) _ | with_reducible refine Below.setCell ?_ (by first | omega | (simp; done) | (simp; omega) | (simp at *; omega)) _ | with_reducible refine Below.trans ?_ (Below.mono (by assumption) (by first | omega | (simp; done) | (simp; omega) | (simp at *; omega))))) (by first | (simp; done) | (simp; omega)) hgrow (fun k hk => ?_); (simp only [Value.ownBlock, Option.some.injEq] at hk); subst hk; first | (simp; done) | (simp; omega)))); (obtain ⟨aoA, cA, rfl, -⟩ := owns_shape hown); (have HA : Hid (wA.ownsRow wa.heap.size 72 4 (.slice aoA i cA) i (msR (l.take i))) := (by rw [Nat.zero_add, List.nil_append] at hown; exact Lib.hid hown)); (rw [Nat.zero_add] at *); (have pA := (hbA.cell (p := ⟨p, 0, none⟩) wa_s0).trans wa_c0); (have pf := (hbA.frozen (p := ⟨p, 0, none⟩) wa_s0).trans wa_f0); (have hsA := hbA.size); (have HbA := Lib.hid hbA); clear hown hgrow hbA) | ((refine step_append_any _ (by rfl) (.tmp 38) (.tmp 45) 48 (by rfl) wa.heap.size 72 i0 (.agg #[.int .i64 0, .int .i64 0, .slice none 0 0, .bool false]) 4 48 Try.underlying48 hii hz0 hz1 hz2 rfl (by decide) (.slice aoA i cA) i (msR (l.take i)) (by rfl) HA.out (some _) (n - (i + 1)) (rc - (i + 1)) (msR (l.drop (i + 1))) (by first | rfl | simp) (fun h => (nomatch h)) (by have := Hdl.out; omega) ?_ (msR_one _) (by unfold maxLen; omega) (by omega) ?_ ?_); (go_must (exact HD.out _ _ (wa_b.trans (HbA.out.mono wa_le)) (fun h => by first | rfl | (exfalso; omega)))); (focus first | omega | (simp; done) | (simp; omega)); intro vB wB hown hgrow; (have hbB : Below wa.heap.size wa wB := (by go_must (refine below_grown HbA.out hsA hgrow (fun k hk => own_block HA.out hk)))); (obtain ⟨aoB, cB, rfl, -⟩ := owns_shape hown); (have pB := (hbB.cell (p := ⟨p, 0, none⟩) wa_s0).trans wa_c0); (have pfB := (hbB.frozen (p := ⟨p, 0, none⟩) wa_s0).trans wa_f0); (have HB : Hid (wB.ownsRow wa.heap.size 72 4 (.slice aoB (i + (n - (i + 1))) cB) (i + (n - (i + 1))) (msR (l.eraseIdx i))) := (by rw [← msR_append, ← List.eraseIdx_eq_take_drop_succ] at hown; exact Lib.hid hown)); (have HbB := Lib.hid hbB); (have hsB := hbB.size); clear hown hgrow hbB) | fail)
    all_goals
      have hlen : i + (n - (i + 1)) = (l.eraseIdx i).length := by
        rw [List.length_eraseIdx]
        simp only [hi, if_true]
        have := Hn.out
        omega
      have S0 := (H.out.new wa_b (thFree w.heap.size) wa_s2 (fun x e => by rw [show x = w.heap.size from e]; exact Nat.le_refl _)).perm List.perm_middle.symm
      have S2 := Lib.hid (St.rtook S0 hi HbB.out HB.out hlen)
      obtain ⟨xc, xf⟩ := bcell HbB.out
      have z0 := (xc _ 0 wa_s2).trans wa_c1
      have z1 := (xc _ 1 wa_s2).trans wa_c2
      have z2 := (xc _ 2 wa_s2).trans wa_c3
      have z3 := (xc _ 3 wa_s2).trans wa_c4
      have y0 := (xf _ 0 wa_s2).trans wa_f1
      have y1 := (xf _ 1 wa_s2).trans wa_f2
      have y2 := (xf _ 2 wa_s2).trans wa_f3
      have y3 := (xf _ 3 wa_s2).trans wa_f4
      have q0 := (xc _ 0 wa_s3).trans wa_c5
      have q1 := (xc _ 1 wa_s3).trans wa_c6
      have q2 := (xc _ 2 wa_s3).trans wa_c7
      have q3 := (xc _ 3 wa_s3).trans wa_c8
      have hne1 : p ≠ w.heap.size := by omega
      have hne2 : p ≠ w.heap.size + 1 := by omega
      have hne3 : w.heap.size ≠ p := by omega
      have hne4 : w.heap.size + 1 ≠ p := by omega
      have sB1 : w.heap.size < wB.heap.size := by omega
      clear xc xf HA HB HT HD hlen
      go_wp2_with fail
      have S3 := Lib.hid ((((((S2.out.pull (A := thD W.heap.size l[i] :: netrefL W.heap.size p aoB cB (l.eraseIdx i))).set_free 0 (.int .i64 f)).set_free 1 (.int .i64 t)).set_free 2 (.slice ao bs.length cap)).set_free 3 (.bool sp)).drop)
      refine bodyPost_ret (v := .tuple #[.agg #[.int .i64 f, .int .i64 t, .slice ao bs.length cap, .bool sp], .bool true]) (by simp only [results, Try.results41]; go_simp) rfl ?_
      exact ⟨aoB, cB, by rw [← Hq.out]; rfl, S3.out⟩
end Go.Proofs.Ytcboflabjdiadaa
