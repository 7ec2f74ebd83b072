/- The contract of the document's change: a merge that begins. -/
import Derived.Test.YtobnibdeimiinaaRd
import Derived.Test.YtobnibdeimiinaaDMg
namespace Go.Proofs.Ytobnibdeimiinaa
open Go.RowKit

set_option maxRecDepth 20000 in
set_option maxHeartbeats 4000000 in
theorem rmerge_any {W w : World} {L : List Th} {p g zc : Nat} {m : Mp} {ho : Option Addr} {hl hc : Nat} (h : St W w (thDir 49 W.heap.size p g zc m ho hl hc :: L)) (hm : m.zs.length ≤ 16) (i : Nat) (z : Zn) (hi : m.zs[i]? = some z) (c : Ch) (hk : c.kind = 2) :
    Calls Try.prog 50 #[.pointer (some ⟨p, 0, none⟩), .agg #[.int .i64 c.kind, .int .i64 c.zone, .int .i64 c.epoch, .int .i64 c.tt, .string c.key], .int .i64 i] w (ChPost 49 W p m ho hl hc L (mergeM m i z)) := by
  obtain ⟨hp, c0, c1, c2, c3, hf⟩ := dir_cells h.head
  obtain ⟨hil, hie⟩ := List.getElem?_eq_some_iff.1 hi
  have hat := h.head.2.1.at
  have hg := hat.lt
  have hgp := h.head.2.2
  obtain ⟨d0, d1, d2, d3, d4, d5, d6, d7, d8⟩ := hat.nine i hil z hie.symm
  have hfg : ∀ j, w.frozen? ⟨g, j, none⟩ = false := h.head.2.1.frozen
  have H := Lib.hid h
  have Hi := Lib.hid hi
  obtain ⟨n, hn⟩ : ∃ n, n = m.zs.length := ⟨_, rfl⟩
  have k1 : (c.kind == 1) = false := by rw [hk]; rfl
  have k2 : (c.kind == 2) = true := by rw [hk]; rfl
  clear hk c0 c1 c3 hf
  by_cases hlt : i + 1 < n
  · have hil2 : i + 1 < m.zs.length := by omega
    obtain ⟨y, hy⟩ : ∃ y, m.zs[i + 1]? = some y := ⟨_, List.getElem?_eq_getElem hil2⟩
    obtain ⟨r0, r1, r2, r3, r4, r5, r6, r7, r8⟩ := hat.nine (i + 1) hil2 y ((List.getElem?_eq_some_iff.1 hy).2).symm
    have Hy := Lib.hid hy
    rw [← hn] at hil hm c2
    have Hn := Lib.hid hn
    have HM := Lib.hid (merge_at (z := z) hy)
    have e6 : decide ((n : Int) ≤ (i : Int) + 1) = false := by rw [decide_eq_false_iff_not]; omega
    have e7 : decide (n ≤ i + 1) = false := by rw [decide_eq_false_iff_not]; omega
    have x1 : IntKind.i64.wrap ((i : Int) + 1) = (i : Int) + 1 := by rw [IntKind.wrap_i64]; omega
    clear hat hn hi hie h hy hil2 r1 r2 r4 r6 r7
    by_cases h1 : z.pend = 0
    · have e1 : (z.pend != 0) = false := by rw [h1]; rfl
      by_cases h2 : y.pend = 0
      · have e2 : (y.pend != 0) = false := by rw [h2]; rfl
        by_cases h3 : z.owner = y.owner
        · have e3 : (y.owner != z.owner) = false := by rw [bne_eq_false_iff_eq]; exact h3.symm
          have HR : Hid (mergeM m i z = some { m with zs := (m.zs.set i { z with pend := 2, nw := y.id }).set (i + 1) { y with pend := 2, nw := z.id } }) := by rw [HM.out, if_neg (by simp [h1, h2, h3])]; rfl
          clear h1 h2 h3
          have q1 : i * 9 + 5 ≠ (i + 1) * 9 := by omega
          have q2 : i * 9 + 8 ≠ (i + 1) * 9 := by omega
          have q3 : i * 9 + 5 ≠ (i + 1) * 9 + 5 := by omega
          have q4 : i * 9 + 5 ≠ (i + 1) * 9 + 8 := by omega
          have q5 : i * 9 + 8 ≠ (i + 1) * 9 + 5 := by omega
          have q6 : i * 9 + 8 ≠ (i + 1) * 9 + 8 := by omega
          have q7 : w.heap.size + 1 ≠ g := by omega
          have q8 : g ≠ w.heap.size + 1 := by omega
          (go_enter Try.func50, Try.ntmps50; (go_wp2_with fail); (refine wp_name fun wa hwa => ?_; have wa_s0 : p < wa.heap.size := (by rw [hwa]; first | omega | (simp; done) | (simp; omega)); have wa_s1 : g < wa.heap.size := (by rw [hwa]; first | omega | (simp; done) | (simp; omega)); have wa_s2 : w.heap.size + 1 < wa.heap.size := (by rw [hwa]; first | omega | (simp; done) | (simp; omega)); have wa_c0 : wa.cell? ⟨w.heap.size + 1, 0, none⟩ = some (.int .i64 z.id) := (by rw [hwa]; go_simp); have wa_c1 : wa.cell? ⟨w.heap.size + 1, 3, none⟩ = some (.int .i64 z.owner) := (by rw [hwa]; go_simp); have wa_c2 : wa.cell? ⟨w.heap.size + 1, 5, none⟩ = some (.int .i64 z.pend) := (by rw [hwa]; go_simp); have wa_c3 : wa.cell? ⟨g, i * 9 + 5, none⟩ = some (.int .i64 z.pend) := (by rw [hwa]; go_simp); have wa_f3 : wa.frozen? ⟨g, i * 9 + 5, none⟩ = false := (by rw [hwa]; go_simp); have wa_c4 : wa.cell? ⟨g, i * 9 + 8, none⟩ = some (.int .i64 z.nw) := (by rw [hwa]; go_simp); have wa_f4 : wa.frozen? ⟨g, i * 9 + 8, none⟩ = false := (by rw [hwa]; go_simp); have wa_c5 : wa.cell? ⟨g, (i + 1) * 9, none⟩ = some (.int .i64 y.id) := (by rw [hwa]; go_simp); have wa_c6 : wa.cell? ⟨g, (i + 1) * 9 + 3, none⟩ = some (.int .i64 y.owner) := (by rw [hwa]; go_simp); have wa_c7 : wa.cell? ⟨g, (i + 1) * 9 + 5, none⟩ = some (.int .i64 y.pend) := (by rw [hwa]; go_simp); have wa_f7 : wa.frozen? ⟨g, (i + 1) * 9 + 5, none⟩ = false := (by rw [hwa]; go_simp); have wa_c8 : wa.cell? ⟨g, (i + 1) * 9 + 8, none⟩ = some (.int .i64 y.nw) := (by rw [hwa]; go_simp); have wa_f8 : wa.frozen? ⟨g, (i + 1) * 9 + 8, none⟩ = false := (by rw [hwa]; go_simp); have wa_b : Below w.heap.size w wa := (by rw [hwa]; exact (by repeat (first | with_reducible exact Below.refl _ _ | with_reducible assumption | with_reducible refine Below.drew ?_ | with_reducible refine below_drawn ?_ | with_reducible refine Below.alloc ?_ (by first | omega | (simp; done) | (simp; omega) | (simp at *; omega)) _ | with_reducible refine Below.setCell ?_ (by first | omega | (simp; done) | (simp; omega) | (simp at *; omega)) _ | with_reducible refine Below.trans ?_ (Below.mono (by assumption) (by first | omega | (simp; done) | (simp; omega) | (simp at *; omega)))))); clear hwa); (have wa_le := wa_b.size); (refine wp_region_gr (by kernel_rfl) (by kernel_rfl) ?_; (repeat (go_big_quiet_step (fail))); refine wpQuiet_nil ?_; intro _ hw'; obtain ⟨g1, hw''⟩ := hw'; subst hw''))
          go_wp2_with fail
          have hgb := wa_b.trans ((gr_below wa g1).mono wa_le)
          have hgs := gr_le wa g1
          have hbelx := gr_below wa g1
          refine wp_name fun wb hwb => ?_
          have hS : Hid (St W wb (thDir 49 W.heap.size p g zc { m with zs := m.zs.set i { z with pend := 2, nw := y.id } } ho hl hc :: L)) := (by rw [hwb]; exact Lib.hid ((H.out.grow hgb).dirTwo i z Hi.out 5 (by decide) (.int .i64 2) { z with pend := 2 } rfl 8 (by decide) (.int .i64 y.id) { z with pend := 2, nw := y.id } rfl))
          have b0 : wb.cell? ⟨w.heap.size + 1, 0, none⟩ = some (.int .i64 z.id) := by rw [hwb]; go_simp
          have b1 : wb.cell? ⟨g, (i + 1) * 9 + 5, none⟩ = some (.int .i64 y.pend) := by rw [hwb]; go_simp
          have b2 : wb.cell? ⟨g, (i + 1) * 9 + 8, none⟩ = some (.int .i64 y.nw) := by rw [hwb]; go_simp
          have bf : ∀ j, wb.frozen? ⟨g, j, none⟩ = false := hS.out.head.2.1.frozen
          have bg : g < wb.heap.size := hS.out.head.2.1.facts.2.1
          have bw : w.heap.size + 1 < wb.heap.size := by rw [hwb]; simp; omega
          have v1 : (0 : Int) ≤ (i : Int) + 1 := by omega
          have v2 : (i : Int) + 1 < (n : Int) := by omega
          clear hwb
          clear hgb hgs hbelx wa_c0 wa_c1 wa_c2 wa_c3 wa_c4 wa_c5 wa_c6 wa_c7 wa_c8 wa_f3 wa_f4 wa_f7 wa_f8 d0 d1 d2 d3 d4 d5 d6 d7 d8 r0 r3 r5 r8 c2 hfg e1 e2 e3
          go_region_law (fail)
          all_goals
            have HS := Lib.hid ((hS.out.grow (below_drawn (n := 1) (Below.refl wb.heap.size wb))).dirTwo (i + 1) y (by show (m.zs.set i _)[i + 1]? = some y; rw [List.getElem?_set_ne (by omega)]; exact Hy.out) 5 (by decide) (.int .i64 2) { y with pend := 2 } rfl 8 (by decide) (.int .i64 z.id) { y with pend := 2, nw := z.id } rfl)
            go_wp2_with fail
            go_ret
            exact chPost_yes HR.out HS.out
        · have e3 : (y.owner != z.owner) = true := by rw [bne_iff_ne]; exact fun e => h3 e.symm
          have HR : Hid (mergeM m i z = none) := by rw [HM.out, if_pos (by simp [h3])]; rfl
          clear h1 h2 h3
          (go_enter Try.func50, Try.ntmps50; (go_wp2_with fail); (refine wp_name fun wa hwa => ?_; have wa_s0 : p < wa.heap.size := (by rw [hwa]; first | omega | (simp; done) | (simp; omega)); have wa_s1 : g < wa.heap.size := (by rw [hwa]; first | omega | (simp; done) | (simp; omega)); have wa_s2 : w.heap.size + 1 < wa.heap.size := (by rw [hwa]; first | omega | (simp; done) | (simp; omega)); have wa_c0 : wa.cell? ⟨w.heap.size + 1, 0, none⟩ = some (.int .i64 z.id) := (by rw [hwa]; go_simp); have wa_c1 : wa.cell? ⟨w.heap.size + 1, 3, none⟩ = some (.int .i64 z.owner) := (by rw [hwa]; go_simp); have wa_c2 : wa.cell? ⟨w.heap.size + 1, 5, none⟩ = some (.int .i64 z.pend) := (by rw [hwa]; go_simp); have wa_c3 : wa.cell? ⟨g, i * 9 + 5, none⟩ = some (.int .i64 z.pend) := (by rw [hwa]; go_simp); have wa_f3 : wa.frozen? ⟨g, i * 9 + 5, none⟩ = false := (by rw [hwa]; go_simp); have wa_c4 : wa.cell? ⟨g, i * 9 + 8, none⟩ = some (.int .i64 z.nw) := (by rw [hwa]; go_simp); have wa_f4 : wa.frozen? ⟨g, i * 9 + 8, none⟩ = false := (by rw [hwa]; go_simp); have wa_c5 : wa.cell? ⟨g, (i + 1) * 9, none⟩ = some (.int .i64 y.id) := (by rw [hwa]; go_simp); have wa_c6 : wa.cell? ⟨g, (i + 1) * 9 + 3, none⟩ = some (.int .i64 y.owner) := (by rw [hwa]; go_simp); have wa_c7 : wa.cell? ⟨g, (i + 1) * 9 + 5, none⟩ = some (.int .i64 y.pend) := (by rw [hwa]; go_simp); have wa_f7 : wa.frozen? ⟨g, (i + 1) * 9 + 5, none⟩ = false := (by rw [hwa]; go_simp); have wa_c8 : wa.cell? ⟨g, (i + 1) * 9 + 8, none⟩ = some (.int .i64 y.nw) := (by rw [hwa]; go_simp); have wa_f8 : wa.frozen? ⟨g, (i + 1) * 9 + 8, none⟩ = false := (by rw [hwa]; go_simp); have wa_b : Below w.heap.size w wa := (by rw [hwa]; exact (by repeat (first | with_reducible exact Below.refl _ _ | with_reducible assumption | with_reducible refine Below.drew ?_ | with_reducible refine below_drawn ?_ | with_reducible refine Below.alloc ?_ (by first | omega | (simp; done) | (simp; omega) | (simp at *; omega)) _ | with_reducible refine Below.setCell ?_ (by first | omega | (simp; done) | (simp; omega) | (simp at *; omega)) _ | with_reducible refine Below.trans ?_ (Below.mono (by assumption) (by first | omega | (simp; done) | (simp; omega) | (simp at *; omega)))))); clear hwa); (have wa_le := wa_b.size); (refine wp_region_gr (by kernel_rfl) (by kernel_rfl) ?_; (repeat (go_big_quiet_step (fail))); refine wpQuiet_nil ?_; intro _ hw'; obtain ⟨g1, hw''⟩ := hw'; subst hw''))
          ((go_wp2_with fail); go_ret; exact chPost_no H.out HR.out (wa_b.trans ((gr_below wa g1).mono (by omega))))
      · have e2 : (y.pend != 0) = true := by rw [bne_iff_ne]; exact h2
        have HR : Hid (mergeM m i z = none) := by rw [HM.out, if_pos (by simp [h2])]; rfl
        clear h1 h2
        (go_enter Try.func50, Try.ntmps50; (go_wp2_with fail); (refine wp_name fun wa hwa => ?_; have wa_s0 : p < wa.heap.size := (by rw [hwa]; first | omega | (simp; done) | (simp; omega)); have wa_s1 : g < wa.heap.size := (by rw [hwa]; first | omega | (simp; done) | (simp; omega)); have wa_s2 : w.heap.size + 1 < wa.heap.size := (by rw [hwa]; first | omega | (simp; done) | (simp; omega)); have wa_c0 : wa.cell? ⟨w.heap.size + 1, 0, none⟩ = some (.int .i64 z.id) := (by rw [hwa]; go_simp); have wa_c1 : wa.cell? ⟨w.heap.size + 1, 3, none⟩ = some (.int .i64 z.owner) := (by rw [hwa]; go_simp); have wa_c2 : wa.cell? ⟨w.heap.size + 1, 5, none⟩ = some (.int .i64 z.pend) := (by rw [hwa]; go_simp); have wa_c3 : wa.cell? ⟨g, i * 9 + 5, none⟩ = some (.int .i64 z.pend) := (by rw [hwa]; go_simp); have wa_f3 : wa.frozen? ⟨g, i * 9 + 5, none⟩ = false := (by rw [hwa]; go_simp); have wa_c4 : wa.cell? ⟨g, i * 9 + 8, none⟩ = some (.int .i64 z.nw) := (by rw [hwa]; go_simp); have wa_f4 : wa.frozen? ⟨g, i * 9 + 8, none⟩ = false := (by rw [hwa]; go_simp); have wa_c5 : wa.cell? ⟨g, (i + 1) * 9, none⟩ = some (.int .i64 y.id) := (by rw [hwa]; go_simp); have wa_c6 : wa.cell? ⟨g, (i + 1) * 9 + 3, none⟩ = some (.int .i64 y.owner) := (by rw [hwa]; go_simp); have wa_c7 : wa.cell? ⟨g, (i + 1) * 9 + 5, none⟩ = some (.int .i64 y.pend) := (by rw [hwa]; go_simp); have wa_f7 : wa.frozen? ⟨g, (i + 1) * 9 + 5, none⟩ = false := (by rw [hwa]; go_simp); have wa_c8 : wa.cell? ⟨g, (i + 1) * 9 + 8, none⟩ = some (.int .i64 y.nw) := (by rw [hwa]; go_simp); have wa_f8 : wa.frozen? ⟨g, (i + 1) * 9 + 8, none⟩ = false := (by rw [hwa]; go_simp); have wa_b : Below w.heap.size w wa := (by rw [hwa]; exact (by repeat (first | with_reducible exact Below.refl _ _ | with_reducible assumption | with_reducible refine Below.drew ?_ | with_reducible refine below_drawn ?_ | with_reducible refine Below.alloc ?_ (by first | omega | (simp; done) | (simp; omega) | (simp at *; omega)) _ | with_reducible refine Below.setCell ?_ (by first | omega | (simp; done) | (simp; omega) | (simp at *; omega)) _ | with_reducible refine Below.trans ?_ (Below.mono (by assumption) (by first | omega | (simp; done) | (simp; omega) | (simp at *; omega)))))); clear hwa); (have wa_le := wa_b.size); (refine wp_region_gr (by kernel_rfl) (by kernel_rfl) ?_; (repeat (go_big_quiet_step (fail))); refine wpQuiet_nil ?_; intro _ hw'; obtain ⟨g1, hw''⟩ := hw'; subst hw''))
        ((go_wp2_with fail); go_ret; exact chPost_no H.out HR.out (wa_b.trans ((gr_below wa g1).mono (by omega))))
    · have e1 : (z.pend != 0) = true := by rw [bne_iff_ne]; exact h1
      have HR : Hid (mergeM m i z = none) := by rw [HM.out, if_pos (by simp [h1])]; rfl
      clear h1
      (go_enter Try.func50, Try.ntmps50; (go_wp2_with fail); (refine wp_name fun wa hwa => ?_; have wa_s0 : p < wa.heap.size := (by rw [hwa]; first | omega | (simp; done) | (simp; omega)); have wa_s1 : g < wa.heap.size := (by rw [hwa]; first | omega | (simp; done) | (simp; omega)); have wa_s2 : w.heap.size + 1 < wa.heap.size := (by rw [hwa]; first | omega | (simp; done) | (simp; omega)); have wa_c0 : wa.cell? ⟨w.heap.size + 1, 0, none⟩ = some (.int .i64 z.id) := (by rw [hwa]; go_simp); have wa_c1 : wa.cell? ⟨w.heap.size + 1, 3, none⟩ = some (.int .i64 z.owner) := (by rw [hwa]; go_simp); have wa_c2 : wa.cell? ⟨w.heap.size + 1, 5, none⟩ = some (.int .i64 z.pend) := (by rw [hwa]; go_simp); have wa_c3 : wa.cell? ⟨g, i * 9 + 5, none⟩ = some (.int .i64 z.pend) := (by rw [hwa]; go_simp); have wa_f3 : wa.frozen? ⟨g, i * 9 + 5, none⟩ = false := (by rw [hwa]; go_simp); have wa_c4 : wa.cell? ⟨g, i * 9 + 8, none⟩ = some (.int .i64 z.nw) := (by rw [hwa]; go_simp); have wa_f4 : wa.frozen? ⟨g, i * 9 + 8, none⟩ = false := (by rw [hwa]; go_simp); have wa_c5 : wa.cell? ⟨g, (i + 1) * 9, none⟩ = some (.int .i64 y.id) := (by rw [hwa]; go_simp); have wa_c6 : wa.cell? ⟨g, (i + 1) * 9 + 3, none⟩ = some (.int .i64 y.owner) := (by rw [hwa]; go_simp); have wa_c7 : wa.cell? ⟨g, (i + 1) * 9 + 5, none⟩ = some (.int .i64 y.pend) := (by rw [hwa]; go_simp); have wa_f7 : wa.frozen? ⟨g, (i + 1) * 9 + 5, none⟩ = false := (by rw [hwa]; go_simp); have wa_c8 : wa.cell? ⟨g, (i + 1) * 9 + 8, none⟩ = some (.int .i64 y.nw) := (by rw [hwa]; go_simp); have wa_f8 : wa.frozen? ⟨g, (i + 1) * 9 + 8, none⟩ = false := (by rw [hwa]; go_simp); have wa_b : Below w.heap.size w wa := (by rw [hwa]; exact (by repeat (first | with_reducible exact Below.refl _ _ | with_reducible assumption | with_reducible refine Below.drew ?_ | with_reducible refine below_drawn ?_ | with_reducible refine Below.alloc ?_ (by first | omega | (simp; done) | (simp; omega) | (simp at *; omega)) _ | with_reducible refine Below.setCell ?_ (by first | omega | (simp; done) | (simp; omega) | (simp at *; omega)) _ | with_reducible refine Below.trans ?_ (Below.mono (by assumption) (by first | omega | (simp; done) | (simp; omega) | (simp at *; omega)))))); clear hwa); (have wa_le := wa_b.size); (refine wp_region_gr (by kernel_rfl) (by kernel_rfl) ?_; (repeat (go_big_quiet_step (fail))); refine wpQuiet_nil ?_; intro _ hw'; obtain ⟨g1, hw''⟩ := hw'; subst hw''))
      ((go_wp2_with fail); go_ret; exact chPost_no H.out HR.out (wa_b.trans ((gr_below wa g1).mono (by omega))))
  · have HR : Hid (mergeM m i z = none) := Lib.hid (merge_none (by rw [List.getElem?_eq_none_iff]; omega))
    rw [← hn] at hil hm c2
    clear hat hn hi hie h hfg
    have x1 : IntKind.i64.wrap ((i : Int) + 1) = (i : Int) + 1 := by rw [IntKind.wrap_i64]; omega
    have e1 : decide ((n : Int) ≤ (i : Int) + 1) = true := by rw [decide_eq_true_eq]; omega
    have e2 : decide (n ≤ i + 1) = true := by rw [decide_eq_true_eq]; omega
    go_enter Try.func50, Try.ntmps50
    go_wp2_with fail
    (refine wp_name fun wa hwa => ?_; have wa_s0 : p < wa.heap.size := (by rw [hwa]; first | omega | (simp; done) | (simp; omega)); have wa_s1 : g < wa.heap.size := (by rw [hwa]; first | omega | (simp; done) | (simp; omega)); have wa_s2 : w.heap.size + 1 < wa.heap.size := (by rw [hwa]; first | omega | (simp; done) | (simp; omega)); have wa_c0 : wa.cell? ⟨w.heap.size + 1, 5, none⟩ = some (.int .i64 z.pend) := (by rw [hwa]; go_simp); have wa_b : Below w.heap.size w wa := (by rw [hwa]; exact (by repeat (first | with_reducible exact Below.refl _ _ | with_reducible assumption | with_reducible refine Below.drew ?_ | with_reducible refine below_drawn ?_ | with_reducible refine Below.alloc ?_ (by first | omega | (simp; done) | (simp; omega) | (simp at *; omega)) _ | with_reducible refine Below.setCell ?_ (by first | omega | (simp; done) | (simp; omega) | (simp at *; omega)) _ | with_reducible refine Below.trans ?_ (Below.mono (by assumption) (by first | omega | (simp; done) | (simp; omega) | (simp at *; omega)))))); clear hwa)
    have wa_le := wa_b.size
    clear d0 d1 d2 d3 d4 d5 d6 d7 d8 c2
    (refine wp_region_gr (by kernel_rfl) (by kernel_rfl) ?_; (repeat (go_big_quiet_step (fail))); refine wpQuiet_nil ?_; intro _ hw'; obtain ⟨g1, hw''⟩ := hw'; subst hw'')
    ((go_wp2_with fail); go_ret; exact chPost_no H.out HR.out (wa_b.trans ((gr_below wa g1).mono (by omega))))
end Go.Proofs.Ytobnibdeimiinaa
