/- The contract of abort. -/
import Derived.Test.YtobnibdeimiinaaDSt
namespace Go.Proofs.Ytobnibdeimiinaa
open Go.RowKit

set_option maxRecDepth 20000 in
set_option maxHeartbeats 2000000 in
theorem abort_any {W w : World} {L : List Th} {p g zc : Nat} {m : Mp} {ho : Option Addr} {hl hc : Nat} (h : St W w (thDir 76 W.heap.size p g zc m ho hl hc :: L)) (i : Nat) (z : Zn) (hi : m.zs[i]? = some z) (hz : 1 ≤ z.epoch) (c : Ch) :
    Calls Try.prog 43 #[.pointer (some ⟨p, 0, none⟩), .int .i64 i, .agg #[.int .i64 c.kind, .int .i64 c.zone, .int .i64 c.epoch, .int .i64 c.tt, .string c.key]] w (ChPost 76 W p m ho hl hc L (abortM m i z c)) := by
  obtain ⟨hp, c0, c1, c2, c3, hf⟩ := dir_cells h.head
  obtain ⟨hil, hie⟩ := List.getElem?_eq_some_iff.1 hi
  have hat := h.head.2.1.at
  have hg := hat.lt
  obtain ⟨d0, d1, d2, d3, d4, d5, d6, d7, d8⟩ := hat.nine i hil z hie.symm
  have hfg : ∀ j, w.frozen? ⟨g, j, none⟩ = false := h.head.2.1.frozen
  have H := Lib.hid h
  obtain ⟨n, hn⟩ : ∃ n, n = m.zs.length := ⟨_, rfl⟩
  rw [← hn] at hil c2
  have Hn := Lib.hid hn
  clear hat hn hi hie h
  by_cases h1 : z.pend = 3
  · have e1 : (z.pend != 3) = false := by rw [h1]; rfl
    by_cases h2 : z.epoch = c.epoch
    · have e2 : (z.epoch != c.epoch) = false := by rw [bne_eq_false_iff_eq]; exact h2
      by_cases h3 : z.epoch < 1099511627776
      · have e3 : decide (1099511627776 ≤ z.epoch) = false := by rw [decide_eq_false_iff_not]; omega
        have hr : abortM m i z c = some { m with zs := m.zs.set i (endedZ z (z.epoch + 1)) } := by unfold abortM; rw [if_neg (by omega)]
        rw [hr]
        have e4 : z.epoch ≤ 1099511627776 := by omega
        clear h1 h2 h3 hr
        go_enter Try.func43, Try.ntmps43
        go_wp2_with fail
        (refine wp_name fun wa hwa => ?_; have wa_s0 : p < wa.heap.size := (by rw [hwa]; first | omega | (simp; done) | (simp; omega)); have wa_s1 : g < wa.heap.size := (by rw [hwa]; first | omega | (simp; done) | (simp; omega)); have wa_s2 : w.heap.size + 1 < wa.heap.size := (by rw [hwa]; first | omega | (simp; done) | (simp; omega)); have wa_c0 : wa.cell? ⟨p, 2, none⟩ = some (.slice (some ⟨g, 0, none⟩) n zc) := (by rw [hwa]; go_simp); have wa_c1 : wa.cell? ⟨w.heap.size + 1, 0, none⟩ = some (.int .i64 z.id) := (by rw [hwa]; go_simp); have wa_c2 : wa.cell? ⟨w.heap.size + 1, 1, none⟩ = some (.string z.fr) := (by rw [hwa]; go_simp); have wa_c3 : wa.cell? ⟨w.heap.size + 1, 2, none⟩ = some (.string z.to) := (by rw [hwa]; go_simp); have wa_c4 : wa.cell? ⟨w.heap.size + 1, 3, none⟩ = some (.int .i64 z.owner) := (by rw [hwa]; go_simp); have wa_c5 : wa.cell? ⟨w.heap.size + 1, 4, none⟩ = some (.int .i64 z.epoch) := (by rw [hwa]; go_simp); have wa_c6 : wa.cell? ⟨w.heap.size + 1, 5, none⟩ = some (.int .i64 z.pend) := (by rw [hwa]; go_simp); have wa_c7 : wa.cell? ⟨w.heap.size + 1, 6, none⟩ = some (.int .i64 z.tt) := (by rw [hwa]; go_simp); have wa_c8 : wa.cell? ⟨w.heap.size + 1, 7, none⟩ = some (.string z.key) := (by rw [hwa]; go_simp); have wa_c9 : wa.cell? ⟨w.heap.size + 1, 8, none⟩ = some (.int .i64 z.nw) := (by rw [hwa]; go_simp); have wa_b : Below w.heap.size w wa := (by rw [hwa]; exact (by repeat (first | with_reducible exact Below.refl _ _ | with_reducible assumption | with_reducible refine Below.drew ?_ | with_reducible refine below_drawn ?_ | with_reducible refine Below.alloc ?_ (by first | omega | (simp; done) | (simp; omega) | (simp at *; omega)) _ | with_reducible refine Below.setCell ?_ (by first | omega | (simp; done) | (simp; omega) | (simp at *; omega)) _ | with_reducible refine Below.trans ?_ (Below.mono (by assumption) (by first | omega | (simp; done) | (simp; omega) | (simp at *; omega)))))); clear hwa)
        have x1 : IntKind.i64.wrap (z.epoch + 1) = z.epoch + 1 := by rw [IntKind.wrap_i64]; omega
        obtain ⟨wac, waf⟩ := bcell wa_b
        go_region_law (first | (refine at_goD 78 _ _ (by rfl) ?_; go_simp; go_at_call 78; (with_reducible refine (ended_any z (z.epoch + 1) _).mono ?_); rintro e W' ⟨rfl, hbw⟩; have hbw2 : Below wa.heap.size wa W' := (Below.refl _ _).drew.trans hbw; obtain ⟨hwc, hwf⟩ := bcell hbw2) | fail)
        all_goals
          have HS := Lib.hid ((H.out.grow (wa_b.trans (hbw2.mono wa_b.size))).dirNine i (by rw [← Hn.out]; exact hil) (endedZ z (z.epoch + 1)))
          clear hbw hbw2
          go_wp2_with fail
          go_ret
          exact chPost_yes rfl HS.out
      · have e3 : decide (1099511627776 ≤ z.epoch) = true := by rw [decide_eq_true_eq]; omega
        have HR : Hid (abortM m i z c = none) := by unfold abortM; rw [if_pos (by omega)]; rfl
        clear h1 h2 h3
        (go_enter Try.func43, Try.ntmps43; (go_wp2_with fail); go_ret; exact chPost_no H.out HR.out (by repeat (first | with_reducible exact Below.refl _ _ | with_reducible assumption | with_reducible refine Below.drew ?_ | with_reducible refine below_drawn ?_ | with_reducible refine Below.alloc ?_ (by first | omega | (simp; done) | (simp; omega) | (simp at *; omega)) _ | with_reducible refine Below.setCell ?_ (by first | omega | (simp; done) | (simp; omega) | (simp at *; omega)) _ | with_reducible refine Below.trans ?_ (Below.mono (by assumption) (by first | omega | (simp; done) | (simp; omega) | (simp at *; omega))))))
    · have e2 : (z.epoch != c.epoch) = true := by rw [bne_iff_ne]; exact h2
      have HR : Hid (abortM m i z c = none) := by unfold abortM; rw [if_pos (by omega)]; rfl
      clear h1 h2
      (go_enter Try.func43, Try.ntmps43; (go_wp2_with fail); go_ret; exact chPost_no H.out HR.out (by repeat (first | with_reducible exact Below.refl _ _ | with_reducible assumption | with_reducible refine Below.drew ?_ | with_reducible refine below_drawn ?_ | with_reducible refine Below.alloc ?_ (by first | omega | (simp; done) | (simp; omega) | (simp at *; omega)) _ | with_reducible refine Below.setCell ?_ (by first | omega | (simp; done) | (simp; omega) | (simp at *; omega)) _ | with_reducible refine Below.trans ?_ (Below.mono (by assumption) (by first | omega | (simp; done) | (simp; omega) | (simp at *; omega))))))
  · have e1 : (z.pend != 3) = true := by rw [bne_iff_ne]; exact h1
    have HR : Hid (abortM m i z c = none) := by unfold abortM; rw [if_pos (by omega)]; rfl
    clear h1
    (go_enter Try.func43, Try.ntmps43; (go_wp2_with fail); go_ret; exact chPost_no H.out HR.out (by repeat (first | with_reducible exact Below.refl _ _ | with_reducible assumption | with_reducible refine Below.drew ?_ | with_reducible refine below_drawn ?_ | with_reducible refine Below.alloc ?_ (by first | omega | (simp; done) | (simp; omega) | (simp at *; omega)) _ | with_reducible refine Below.setCell ?_ (by first | omega | (simp; done) | (simp; omega) | (simp at *; omega)) _ | with_reducible refine Below.trans ?_ (Below.mono (by assumption) (by first | omega | (simp; done) | (simp; omega) | (simp at *; omega))))))
end Go.Proofs.Ytobnibdeimiinaa
