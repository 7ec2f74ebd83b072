/- Texts put together: OSp. -/
import Derived.Test.YthlcmjgdilebeaaPa09
import Derived.Test.YthlcmjgdilebeaaPa11
namespace Go.Proofs.Ythlcmjgdilebeaa.O
open Go.RowKit

theorem splits_no {m : Mp} {i : Nat} {z : Zn} (h : cutOk z.fr z.to z.key = false ∨ ¬ (z.tt = 0 ∧ 1 ≤ z.nw ∧ z.nw < m.next) ∨ (findZ m.zs z.nw).isNone = false ∨ clashB m.zs i z.nw = true) : splitsB m i z = false := by
  unfold splitsB
  rcases h with h | h | h | h
  · rw [h]; rfl
  · rw [decide_eq_false h]; simp
  · rw [h]; simp
  · rw [h]; simp
set_option maxRecDepth 20000 in
set_option maxHeartbeats 4000000 in
theorem splits_any {g o zc : Nat} {m : Mp} {w : World} (h : ZnO w g o m.zs) (hm : m.zs.length ≤ 1000) (i : Nat) (z : Zn) (hi : m.zs[i]? = some z) :
    Calls Try.prog 78 #[.agg #[.int .i64 m.ver, .int .i64 m.next, .slice (some ⟨g, o, none⟩) m.zs.length zc], .int .i64 i] w fun e w' => e = .returned (.bool (splitsB m i z)) ∧ Below w.heap.size w w' := by
  obtain ⟨hil, hie⟩ := List.getElem?_eq_some_iff.1 hi
  have hg := h.lt
  obtain ⟨d0, d1, d2, d3, d4, d5, d6, d7, d8⟩ := h.nine i hil z hie.symm
  have Hz := Lib.hid h
  obtain ⟨k, hk⟩ : ∃ k, k = fz m.zs z.nw := ⟨_, rfl⟩
  obtain ⟨n, hn⟩ : ∃ n, n = m.zs.length := ⟨_, rfl⟩
  obtain ⟨nx, hnx⟩ : ∃ nx, nx = m.next := ⟨_, rfl⟩
  obtain ⟨r, hr⟩ : ∃ r, r = cutOk z.fr z.to z.key := ⟨_, rfl⟩
  have Hfd := Lib.hid (fun (w3 : World) (hb : Below w.heap.size w w3) => rfind_any (zc := zc) (Hz.out.grow hb) hm z.nw)
  have hct := fun w => satrapyref12_cut z.fr z.to z.key w
  rw [← hk, ← hn] at Hfd
  rw [← hr] at hct
  have Hct := Lib.hid hct
  rw [← hn] at hil hm ⊢
  rw [← hnx]
  have Hk := Lib.hid hk
  have Hn := Lib.hid hn
  have Hnx := Lib.hid hnx
  have Hr := Lib.hid hr
  clear hi hie h hk hn hnx hr hct
  cases r with
  | false =>
    have HR : Hid (splitsB m i z = false) := Lib.hid (splits_no (.inl Hr.out.symm))
    ((go_enter Try.func78, Try.ntmps78; (go_wp2_with fail); (refine calls_name fun wa hwa => ?_; have wa_s0 : g < wa.heap.size := szg hwa; have wa_s1 : w.heap.size < wa.heap.size := szg hwa; have wa_s2 : w.heap.size + 1 < wa.heap.size := szg hwa; have wa_c0 : wa.cell? ⟨w.heap.size, 1, none⟩ = some (.int .i64 nx) := cg hwa; have wa_c1 : wa.cell? ⟨w.heap.size, 2, none⟩ = some (.slice (some ⟨g, o, none⟩) n zc) := cg hwa; have wa_c2 : wa.cell? ⟨w.heap.size + 1, 6, none⟩ = some (.int .i64 z.tt) := cg hwa; have wa_c3 : wa.cell? ⟨w.heap.size + 1, 8, none⟩ = some (.int .i64 z.nw) := cg hwa; have wa_b : Below w.heap.size w wa := (by rw [hwa]; exact bg); clear hwa); (refine (Hct.out _).mono ?_); (rintro e w1 ⟨rfl, w1_h⟩; obtain ⟨w1_hc, w1_hf⟩ := bcell w1_h; have w1_z := w1_h.size; have w1_b := wa_b.trans (w1_h.mono (by have := wa_b.size; omega)); have w1_le := w1_b.size; have w1_s0 : g < w1.heap.size := (by omega); have w1_s1 : w.heap.size < w1.heap.size := (by omega); have w1_s2 : w.heap.size + 1 < w1.heap.size := (by omega); clear w1_h); (go_wp2_with fail)); go_ret; exact ⟨by rw [HR.out]; rfl, bg⟩)
  | true =>
    by_cases h1 : z.tt = 0
    · have e1 : (z.tt != 0) = false := by rw [h1]; rfl
      by_cases h2 : 1 ≤ z.nw
      · have e2 : decide (z.nw < 1) = false := by rw [decide_eq_false_iff_not]; omega
        by_cases h3 : z.nw < nx
        · have e3 : decide (nx ≤ z.nw) = false := by rw [decide_eq_false_iff_not]; omega
          cases hf : findZ m.zs z.nw with
          | some k' =>
            obtain rfl : k = (k' : Int) := by rw [Hk.out, fz, hf]
            have HR : Hid (splitsB m i z = false) := Lib.hid (splits_no (.inr (.inr (.inl (by rw [hf]; rfl)))))
            have e4 : decide ((0 : Int) ≤ k') = true := by rw [decide_eq_true_eq]; omega
            clear hf h1
            (go_enter Try.func78, Try.ntmps78; (go_wp2_with fail); (refine calls_name fun wa hwa => ?_; have wa_s0 : g < wa.heap.size := szg hwa; have wa_s1 : w.heap.size < wa.heap.size := szg hwa; have wa_s2 : w.heap.size + 1 < wa.heap.size := szg hwa; have wa_c0 : wa.cell? ⟨w.heap.size, 1, none⟩ = some (.int .i64 nx) := cg hwa; have wa_c1 : wa.cell? ⟨w.heap.size, 2, none⟩ = some (.slice (some ⟨g, o, none⟩) n zc) := cg hwa; have wa_c2 : wa.cell? ⟨w.heap.size + 1, 6, none⟩ = some (.int .i64 z.tt) := cg hwa; have wa_c3 : wa.cell? ⟨w.heap.size + 1, 8, none⟩ = some (.int .i64 z.nw) := cg hwa; have wa_b : Below w.heap.size w wa := (by rw [hwa]; exact bg); clear hwa); (refine (Hct.out _).mono ?_); (rintro e w1 ⟨rfl, w1_h⟩; obtain ⟨w1_hc, w1_hf⟩ := bcell w1_h; have w1_z := w1_h.size; have w1_b := wa_b.trans (w1_h.mono (by have := wa_b.size; omega)); have w1_le := w1_b.size; have w1_s0 : g < w1.heap.size := (by omega); have w1_s1 : w.heap.size < w1.heap.size := (by omega); have w1_s2 : w.heap.size + 1 < w1.heap.size := (by omega); clear w1_h); (go_wp2_with fail))
            (refine calls_name fun wb hwb => ?_; have wb_s0 : g < wb.heap.size := szg hwb; have wb_s1 : w.heap.size < wb.heap.size := szg hwb; have wb_c0 : wb.cell? ⟨w.heap.size, 1, none⟩ = some (.int .i64 nx) := cg hwb; have wb_c1 : wb.cell? ⟨w.heap.size, 2, none⟩ = some (.slice (some ⟨g, o, none⟩) n zc) := cg hwb; have wb_b : Below w.heap.size w wb := (by rw [hwb]; exact bg); clear hwb)
            refine (Hfd.out _ wb_b).mono ?_
            (rintro e w2 ⟨rfl, w2_h⟩; obtain ⟨w2_hc, w2_hf⟩ := bcell w2_h; have w2_z := w2_h.size; have w2_b := wb_b.trans (w2_h.mono (by have := wb_b.size; omega)); have w2_le := w2_b.size; clear w2_h)
            go_wp2_with fail
            go_ret
            exact ⟨by rw [HR.out]; rfl, bg⟩
          | none =>
            obtain rfl : k = -1 := by rw [Hk.out, fz, hf]
            have HM : Hid (splitsB m i z = !clashB m.zs i z.nw) := by
              unfold splitsB
              rw [← Hr.out, hf, decide_eq_true ⟨h1, h2, by rw [← Hnx.out]; exact h3⟩]
              exact Lib.hid (by simp)
            clear hf h1
            (go_enter Try.func78, Try.ntmps78; (go_wp2_with fail); (refine calls_name fun wa hwa => ?_; have wa_s0 : g < wa.heap.size := szg hwa; have wa_s1 : w.heap.size < wa.heap.size := szg hwa; have wa_s2 : w.heap.size + 1 < wa.heap.size := szg hwa; have wa_c0 : wa.cell? ⟨w.heap.size, 1, none⟩ = some (.int .i64 nx) := cg hwa; have wa_c1 : wa.cell? ⟨w.heap.size, 2, none⟩ = some (.slice (some ⟨g, o, none⟩) n zc) := cg hwa; have wa_c2 : wa.cell? ⟨w.heap.size + 1, 6, none⟩ = some (.int .i64 z.tt) := cg hwa; have wa_c3 : wa.cell? ⟨w.heap.size + 1, 8, none⟩ = some (.int .i64 z.nw) := cg hwa; have wa_b : Below w.heap.size w wa := (by rw [hwa]; exact bg); clear hwa); (refine (Hct.out _).mono ?_); (rintro e w1 ⟨rfl, w1_h⟩; obtain ⟨w1_hc, w1_hf⟩ := bcell w1_h; have w1_z := w1_h.size; have w1_b := wa_b.trans (w1_h.mono (by have := wa_b.size; omega)); have w1_le := w1_b.size; have w1_s0 : g < w1.heap.size := (by omega); have w1_s1 : w.heap.size < w1.heap.size := (by omega); have w1_s2 : w.heap.size + 1 < w1.heap.size := (by omega); clear w1_h); (go_wp2_with fail))
            (refine calls_name fun wb hwb => ?_; have wb_s0 : g < wb.heap.size := szg hwb; have wb_s1 : w.heap.size < wb.heap.size := szg hwb; have wb_s2 : w.heap.size + 1 < wb.heap.size := szg hwb; have wb_c0 : wb.cell? ⟨w.heap.size, 1, none⟩ = some (.int .i64 nx) := cg hwb; have wb_c1 : wb.cell? ⟨w.heap.size, 2, none⟩ = some (.slice (some ⟨g, o, none⟩) n zc) := cg hwb; have wb_c2 : wb.cell? ⟨w.heap.size + 1, 6, none⟩ = some (.int .i64 z.tt) := cg hwb; have wb_c3 : wb.cell? ⟨w.heap.size + 1, 8, none⟩ = some (.int .i64 z.nw) := cg hwb; have wb_b : Below w.heap.size w wb := (by rw [hwb]; exact bg); clear hwb)
            refine (Hfd.out _ wb_b).mono ?_
            (rintro e w2 ⟨rfl, w2_h⟩; obtain ⟨w2_hc, w2_hf⟩ := bcell w2_h; have w2_z := w2_h.size; have w2_b := wb_b.trans (w2_h.mono (by have := wb_b.size; omega)); have w2_le := w2_b.size; have w2_s0 : g < w2.heap.size := (by omega); have w2_s1 : w.heap.size < w2.heap.size := (by omega); have w2_s2 : w.heap.size + 1 < w2.heap.size := (by omega); clear w2_h)
            go_wp2_with fail
            (refine wp_name fun wc hwc => ?_; have wc_s0 : g < wc.heap.size := szg hwc; have wc_s1 : w.heap.size < wc.heap.size := szg hwc; have wc_s2 : w.heap.size + 1 < wc.heap.size := szg hwc; have wc_c0 : wc.cell? ⟨w.heap.size, 1, none⟩ = some (.int .i64 nx) := cg hwc; have wc_c1 : wc.cell? ⟨w.heap.size, 2, none⟩ = some (.slice (some ⟨g, o, none⟩) n zc) := cg hwc; have wc_c2 : wc.cell? ⟨w.heap.size + 1, 6, none⟩ = some (.int .i64 z.tt) := cg hwc; have wc_c3 : wc.cell? ⟨w.heap.size + 1, 8, none⟩ = some (.int .i64 z.nw) := cg hwc; have wc_b : Below w.heap.size w wc := (by rw [hwc]; exact bg); clear hwc)
            have wc_le := wc_b.size
            clear w2_hc w2_hf wb_c0 wb_c1 wb_c2 wb_c3 wb_b wb_s0 wb_s1 wb_s2 w1_hc w1_hf wa_c0 wa_c1 wa_c2 wa_c3 wa_b w2_b w1_b d0 d1 d2 d3 d4 d5 d6 d7 d8 w2_s0 w2_s1 w2_s2 w1_s0 w1_s1 w1_s2 wa_s0 wa_s1 wa_s2 e1 e2 e3 w2_le w1_le w2_z w1_z
            go_loopw [9] (fun s wr => ∃ k : Nat, s = .int .i64 k ∧ k ≤ n ∧ Hid (∀ j (hj : j < m.zs.length), j < k → j ≠ i → m.zs[j].pend = 1 → m.zs[j].nw ≠ z.nw) ∧ Hid (Below wc.heap.size wc wr)) (fun s _ => n - (intOf s).toNat)
            case atStart => exact ⟨0, rfl, by omega, Lib.hid (fun j _ hj => by omega), Lib.hid (Below.refl _ _)⟩
            case round =>
              obtain ⟨k, rfl, hk, Hne, Hb⟩ := hrel
              have wr_b := wc_b.trans (Hb.out.mono wc_le)
              obtain ⟨xc, -⟩ := bcell Hb.out
              have hsr := Hb.out.size
              have r1 := (xc _ _ wc_s1).trans wc_c0
              have r2 := (xc _ _ wc_s1).trans wc_c1
              have r3 := (xc _ _ wc_s2).trans wc_c2
              have r4 := (xc _ _ wc_s2).trans wc_c3
              have u0 : g < wr.heap.size := by omega
              have u1 : w.heap.size < wr.heap.size := by omega
              have u2 : w.heap.size + 1 < wr.heap.size := by omega
              clear xc
              by_cases hlt : k < n
              · have hl1 : k < m.zs.length := by have := Hn.out; omega
                obtain ⟨y, hy⟩ : ∃ y, y = m.zs[k] := ⟨_, rfl⟩
                obtain ⟨f0, f1, f2, f3, f4, f5, f6, f7, f8⟩ := (Hz.out.grow wr_b).nine k hl1 y hy
                have Hy := Lib.hid hy
                clear hy f0 f1 f2 f3 f4 f6 f7
                obtain ⟨wo, rfl⟩ : ∃ wo : World, wo = wr := ⟨_, rfl⟩
                by_cases q1 : k = i
                · have v1 : ((k : Int) != (i : Int)) = false := by rw [bne_eq_false_iff_eq]; omega
                  have Q1 := Lib.hid q1
                  clear q1
                  ((go_wp2_with fail); (refine wp_region_gr (by kernel_rfl) (by kernel_rfl) ?_; (repeat (go_big_quiet_step (fail))); refine wpQuiet_nil ?_; intro _ hw'; obtain ⟨g0, hw''⟩ := hw'; subst hw''); (go_wp2_with fail); go_roundw; (case rel => exact ⟨k + 1, (by go_num), (by omega), Lib.hid (fun j hj hjk hji => (by (by_cases e : j = k); (subst e; exact absurd Q1.out (by omega)); (exact Hne.out j hj (by omega) hji))), Lib.hid (Hb.out.trans ((gr_below wo g0).mono (by omega)))⟩); (case measure => (simp [intOf]; omega)))
                · have v1 : ((k : Int) != (i : Int)) = true := by rw [bne_iff_ne]; omega
                  have Q1 := Lib.hid q1
                  clear q1
                  by_cases q2 : y.pend = 1
                  · have v2 : (y.pend == 1) = true := by rw [beq_iff_eq]; exact q2
                    by_cases q3 : y.nw = z.nw
                    · have v3 : (y.nw == z.nw) = true := by rw [beq_iff_eq]; exact q3
                      have HF : Hid (splitsB m i z = false) := by rw [HM.out, clash_hit hl1 Q1.out (by rw [← Hy.out]; exact q2) (by rw [← Hy.out]; exact q3)]; rfl
                      clear q2 q3
                      go_wp2_with fail
                      (refine wp_region_gr (by kernel_rfl) (by kernel_rfl) ?_; (repeat (go_big_quiet_step (fail))); refine wpQuiet_nil ?_; intro _ hw'; obtain ⟨g0, hw''⟩ := hw'; subst hw'')
                      go_wp2_with fail
                      go_ret
                      exact ⟨by rw [HF.out]; rfl, wr_b.trans ((gr_below wo g0).mono (by have := wc_le; omega))⟩
                    · have v3 : (y.nw == z.nw) = false := by rw [beq_eq_false_iff_ne]; exact q3
                      have Q3 := Lib.hid q3
                      clear q2 q3
                      ((go_wp2_with fail); (refine wp_region_gr (by kernel_rfl) (by kernel_rfl) ?_; (repeat (go_big_quiet_step (fail))); refine wpQuiet_nil ?_; intro _ hw'; obtain ⟨g0, hw''⟩ := hw'; subst hw''); (go_wp2_with fail); go_roundw; (case rel => exact ⟨k + 1, (by go_num), (by omega), Lib.hid (fun j hj hjk hji => (by (by_cases e : j = k); (subst e; rw [← Hy.out]; exact fun _ => Q3.out); (exact Hne.out j hj (by omega) hji))), Lib.hid (Hb.out.trans ((gr_below wo g0).mono (by omega)))⟩); (case measure => (simp [intOf]; omega)))
                  · have v2 : (y.pend == 1) = false := by rw [beq_eq_false_iff_ne]; exact q2
                    have Q2 := Lib.hid q2
                    clear q2
                    ((go_wp2_with fail); (refine wp_region_gr (by kernel_rfl) (by kernel_rfl) ?_; (repeat (go_big_quiet_step (fail))); refine wpQuiet_nil ?_; intro _ hw'; obtain ⟨g0, hw''⟩ := hw'; subst hw''); (go_wp2_with fail); go_roundw; (case rel => exact ⟨k + 1, (by go_num), (by omega), Lib.hid (fun j hj hjk hji => (by (by_cases e : j = k); (subst e; rw [← Hy.out]; exact fun h => absurd h Q2.out); (exact Hne.out j hj (by omega) hji))), Lib.hid (Hb.out.trans ((gr_below wo g0).mono (by omega)))⟩); (case measure => (simp [intOf]; omega)))
              · have HT : Hid (splitsB m i z = true) := by rw [HM.out, clash_end (fun j hj => Hne.out j hj (by have := Hn.out; omega))]; rfl
                go_wp2_with fail
                go_ret
                exact ⟨by rw [HT.out]; rfl, wr_b⟩
        · have e3 : decide (nx ≤ z.nw) = true := by rw [decide_eq_true_eq]; omega
          have HR : Hid (splitsB m i z = false) := Lib.hid (splits_no (.inr (.inl (by rw [← Hnx.out]; rintro ⟨-, -, h⟩; exact h3 h))))
          clear h1 h3
          ((go_enter Try.func78, Try.ntmps78; (go_wp2_with fail); (refine calls_name fun wa hwa => ?_; have wa_s0 : g < wa.heap.size := szg hwa; have wa_s1 : w.heap.size < wa.heap.size := szg hwa; have wa_s2 : w.heap.size + 1 < wa.heap.size := szg hwa; have wa_c0 : wa.cell? ⟨w.heap.size, 1, none⟩ = some (.int .i64 nx) := cg hwa; have wa_c1 : wa.cell? ⟨w.heap.size, 2, none⟩ = some (.slice (some ⟨g, o, none⟩) n zc) := cg hwa; have wa_c2 : wa.cell? ⟨w.heap.size + 1, 6, none⟩ = some (.int .i64 z.tt) := cg hwa; have wa_c3 : wa.cell? ⟨w.heap.size + 1, 8, none⟩ = some (.int .i64 z.nw) := cg hwa; have wa_b : Below w.heap.size w wa := (by rw [hwa]; exact bg); clear hwa); (refine (Hct.out _).mono ?_); (rintro e w1 ⟨rfl, w1_h⟩; obtain ⟨w1_hc, w1_hf⟩ := bcell w1_h; have w1_z := w1_h.size; have w1_b := wa_b.trans (w1_h.mono (by have := wa_b.size; omega)); have w1_le := w1_b.size; have w1_s0 : g < w1.heap.size := (by omega); have w1_s1 : w.heap.size < w1.heap.size := (by omega); have w1_s2 : w.heap.size + 1 < w1.heap.size := (by omega); clear w1_h); (go_wp2_with fail)); go_ret; exact ⟨by rw [HR.out]; rfl, bg⟩)
      · have e2 : decide (z.nw < 1) = true := by rw [decide_eq_true_eq]; omega
        have HR : Hid (splitsB m i z = false) := Lib.hid (splits_no (.inr (.inl (by rintro ⟨-, h, -⟩; exact h2 h))))
        clear h1 h2
        ((go_enter Try.func78, Try.ntmps78; (go_wp2_with fail); (refine calls_name fun wa hwa => ?_; have wa_s0 : g < wa.heap.size := szg hwa; have wa_s1 : w.heap.size < wa.heap.size := szg hwa; have wa_s2 : w.heap.size + 1 < wa.heap.size := szg hwa; have wa_c0 : wa.cell? ⟨w.heap.size, 1, none⟩ = some (.int .i64 nx) := cg hwa; have wa_c1 : wa.cell? ⟨w.heap.size, 2, none⟩ = some (.slice (some ⟨g, o, none⟩) n zc) := cg hwa; have wa_c2 : wa.cell? ⟨w.heap.size + 1, 6, none⟩ = some (.int .i64 z.tt) := cg hwa; have wa_c3 : wa.cell? ⟨w.heap.size + 1, 8, none⟩ = some (.int .i64 z.nw) := cg hwa; have wa_b : Below w.heap.size w wa := (by rw [hwa]; exact bg); clear hwa); (refine (Hct.out _).mono ?_); (rintro e w1 ⟨rfl, w1_h⟩; obtain ⟨w1_hc, w1_hf⟩ := bcell w1_h; have w1_z := w1_h.size; have w1_b := wa_b.trans (w1_h.mono (by have := wa_b.size; omega)); have w1_le := w1_b.size; have w1_s0 : g < w1.heap.size := (by omega); have w1_s1 : w.heap.size < w1.heap.size := (by omega); have w1_s2 : w.heap.size + 1 < w1.heap.size := (by omega); clear w1_h); (go_wp2_with fail)); go_ret; exact ⟨by rw [HR.out]; rfl, bg⟩)
    · have e1 : (z.tt != 0) = true := by rw [bne_iff_ne]; exact h1
      have HR : Hid (splitsB m i z = false) := Lib.hid (splits_no (.inr (.inl (by rintro ⟨h, -, -⟩; exact h1 h))))
      clear h1
      ((go_enter Try.func78, Try.ntmps78; (go_wp2_with fail); (refine calls_name fun wa hwa => ?_; have wa_s0 : g < wa.heap.size := szg hwa; have wa_s1 : w.heap.size < wa.heap.size := szg hwa; have wa_s2 : w.heap.size + 1 < wa.heap.size := szg hwa; have wa_c0 : wa.cell? ⟨w.heap.size, 1, none⟩ = some (.int .i64 nx) := cg hwa; have wa_c1 : wa.cell? ⟨w.heap.size, 2, none⟩ = some (.slice (some ⟨g, o, none⟩) n zc) := cg hwa; have wa_c2 : wa.cell? ⟨w.heap.size + 1, 6, none⟩ = some (.int .i64 z.tt) := cg hwa; have wa_c3 : wa.cell? ⟨w.heap.size + 1, 8, none⟩ = some (.int .i64 z.nw) := cg hwa; have wa_b : Below w.heap.size w wa := (by rw [hwa]; exact bg); clear hwa); (refine (Hct.out _).mono ?_); (rintro e w1 ⟨rfl, w1_h⟩; obtain ⟨w1_hc, w1_hf⟩ := bcell w1_h; have w1_z := w1_h.size; have w1_b := wa_b.trans (w1_h.mono (by have := wa_b.size; omega)); have w1_le := w1_b.size; have w1_s0 : g < w1.heap.size := (by omega); have w1_s1 : w.heap.size < w1.heap.size := (by omega); have w1_s2 : w.heap.size + 1 < w1.heap.size := (by omega); clear w1_h); (go_wp2_with fail)); go_ret; exact ⟨by rw [HR.out]; rfl, bg⟩)
end Go.Proofs.Ythlcmjgdilebeaa.O
