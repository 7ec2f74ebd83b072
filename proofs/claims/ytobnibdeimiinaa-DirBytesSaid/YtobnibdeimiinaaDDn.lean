/- The contract of done: a move that is done. -/
import Derived.Test.YtobnibdeimiinaaDSt
namespace Go.Proofs.Ytobnibdeimiinaa
open Go.RowKit

set_option maxRecDepth 20000 in
set_option maxHeartbeats 4000000 in
theorem done_move {W w : World} {L : List Th} {p g zc : Nat} {m : Mp} {ho : Option Addr} {hl hc : Nat} (h : St W w (thDir 76 W.heap.size p g zc m ho hl hc :: L)) (i : Nat) (z : Zn) (hi : m.zs[i]? = some z) (hz : 1 ≤ z.epoch) (c : Ch) (h1 : z.pend = 3) (h2 : z.epoch = c.epoch) (h3 : z.epoch < 1099511627776) :
    Calls Try.prog 42 #[.pointer (some ⟨p, 0, none⟩), .int .i64 i, .agg #[.int .i64 c.kind, .int .i64 c.zone, .int .i64 c.epoch, .int .i64 c.tt, .string c.key]] w (ChPost 76 W p m ho hl hc L (some { m with zs := m.zs.set i { endedZ z (z.epoch + 1) with owner := z.tt } })) := by
  obtain ⟨hp, c0, c1, c2, c3, hf⟩ := dir_cells h.head
  obtain ⟨hil, hie⟩ := List.getElem?_eq_some_iff.1 hi
  have hat := h.head.2.1.at
  have hg := hat.lt
  obtain ⟨d0, d1, d2, d3, d4, d5, d6, d7, d8⟩ := hat.nine i hil z hie.symm
  have hfg : ∀ j, w.frozen? ⟨g, j, none⟩ = false := h.head.2.1.frozen
  have H := Lib.hid h
  obtain ⟨n, hn⟩ : ∃ n, n = m.zs.length := ⟨_, rfl⟩
  rw [← hn] at hil c2
  have Hn := Lib.hid hn
  have Hi := Lib.hid hi
  clear hat hn hi hie h c0 c1 c3 hf
  have e0 : (z.pend == 0) = false := by rw [h1]; rfl
  have e1 : (z.pend == 1) = false := by rw [h1]; rfl
  have e2 : (z.pend == 2) = false := by rw [h1]; rfl
  have e3 : (z.epoch != c.epoch) = false := by rw [bne_eq_false_iff_eq]; exact h2
  have e4 : decide (1099511627776 ≤ z.epoch) = false := by rw [decide_eq_false_iff_not]; omega
  clear h1 h2
  go_enter Try.func42, Try.ntmps42
  go_wp2_with fail
  (refine calls_name fun wa hwa => ?_; have wa_s0 : p < wa.heap.size := (by rw [hwa]; first | omega | (simp; done) | (simp; omega)); have wa_s1 : g < wa.heap.size := (by rw [hwa]; first | omega | (simp; done) | (simp; omega)); have wa_s2 : w.heap.size < wa.heap.size := (by rw [hwa]; first | omega | (simp; done) | (simp; omega)); have wa_s3 : w.heap.size + 1 < wa.heap.size := (by rw [hwa]; first | omega | (simp; done) | (simp; omega)); have wa_c0 : wa.cell? ⟨p, 2, none⟩ = some (.slice (some ⟨g, 0, none⟩) n zc) := (by rw [hwa]; go_simp); have wa_c1 : wa.cell? ⟨w.heap.size + 1, 0, none⟩ = some (.int .i64 z.id) := (by rw [hwa]; go_simp); have wa_c2 : wa.cell? ⟨w.heap.size + 1, 1, none⟩ = some (.string z.fr) := (by rw [hwa]; go_simp); have wa_c3 : wa.cell? ⟨w.heap.size + 1, 2, none⟩ = some (.string z.to) := (by rw [hwa]; go_simp); have wa_c4 : wa.cell? ⟨w.heap.size + 1, 3, none⟩ = some (.int .i64 z.owner) := (by rw [hwa]; go_simp); have wa_c5 : wa.cell? ⟨w.heap.size + 1, 4, none⟩ = some (.int .i64 z.epoch) := (by rw [hwa]; go_simp); have wa_c6 : wa.cell? ⟨w.heap.size + 1, 5, none⟩ = some (.int .i64 z.pend) := (by rw [hwa]; go_simp); have wa_c7 : wa.cell? ⟨w.heap.size + 1, 6, none⟩ = some (.int .i64 z.tt) := (by rw [hwa]; go_simp); have wa_c8 : wa.cell? ⟨w.heap.size + 1, 7, none⟩ = some (.string z.key) := (by rw [hwa]; go_simp); have wa_c9 : wa.cell? ⟨w.heap.size + 1, 8, none⟩ = some (.int .i64 z.nw) := (by rw [hwa]; go_simp); have wa_b : Below w.heap.size w wa := (by rw [hwa]; exact (by repeat (first | with_reducible exact Below.refl _ _ | with_reducible assumption | with_reducible refine Below.drew ?_ | with_reducible refine below_drawn ?_ | with_reducible refine Below.alloc ?_ (by first | omega | (simp; done) | (simp; omega) | (simp at *; omega)) _ | with_reducible refine Below.setCell ?_ (by first | omega | (simp; done) | (simp; omega) | (simp at *; omega)) _ | with_reducible refine Below.trans ?_ (Below.mono (by assumption) (by first | omega | (simp; done) | (simp; omega) | (simp at *; omega)))))); clear hwa)
  refine (ended_any z (z.epoch + 1) _).mono ?_
  (rintro e w1 ⟨rfl, w1_h⟩; obtain ⟨w1_hc, w1_hf⟩ := bcell w1_h; have w1_z := w1_h.size; have w1_b := wa_b.trans (w1_h.mono (by have := wa_b.size; omega)); have w1_le := w1_b.size; have w1_s0 : p < w1.heap.size := (by omega); have w1_s1 : g < w1.heap.size := (by omega); have w1_s2 : w.heap.size < w1.heap.size := (by omega); have w1_s3 : w.heap.size + 1 < w1.heap.size := (by omega); clear w1_h)
  go_wp2_with fail
  (refine wp_name fun wb hwb => ?_; have wb_s0 : p < wb.heap.size := (by rw [hwb]; first | omega | (simp; done) | (simp; omega)); have wb_s1 : g < wb.heap.size := (by rw [hwb]; first | omega | (simp; done) | (simp; omega)); have wb_s2 : w1.heap.size < wb.heap.size := (by rw [hwb]; first | omega | (simp; done) | (simp; omega)); have wb_c0 : wb.cell? ⟨w1.heap.size, 0, none⟩ = some (.int .i64 z.id) := (by rw [hwb]; go_simp); have wb_c1 : wb.cell? ⟨w1.heap.size, 1, none⟩ = some (.string z.fr) := (by rw [hwb]; go_simp); have wb_c2 : wb.cell? ⟨w1.heap.size, 2, none⟩ = some (.string z.to) := (by rw [hwb]; go_simp); have wb_c3 : wb.cell? ⟨w1.heap.size, 3, none⟩ = some (.int .i64 z.tt) := (by rw [hwb]; go_simp); have wb_c4 : wb.cell? ⟨w1.heap.size, 4, none⟩ = some (.int .i64 (z.epoch + 1)) := (by rw [hwb]; go_simp); have wb_c5 : wb.cell? ⟨w1.heap.size, 5, none⟩ = some (.int .i64 0) := (by rw [hwb]; go_simp); have wb_c6 : wb.cell? ⟨w1.heap.size, 6, none⟩ = some (.int .i64 0) := (by rw [hwb]; go_simp); have wb_c7 : wb.cell? ⟨w1.heap.size, 7, none⟩ = some (.string ⟨#[]⟩) := (by rw [hwb]; go_simp); have wb_c8 : wb.cell? ⟨w1.heap.size, 8, none⟩ = some (.int .i64 0) := (by rw [hwb]; go_simp); have wb_b : Below w.heap.size w wb := (by rw [hwb]; exact (by repeat (first | with_reducible exact Below.refl _ _ | with_reducible assumption | with_reducible refine Below.drew ?_ | with_reducible refine below_drawn ?_ | with_reducible refine Below.alloc ?_ (by first | omega | (simp; done) | (simp; omega) | (simp at *; omega)) _ | with_reducible refine Below.setCell ?_ (by first | omega | (simp; done) | (simp; omega) | (simp at *; omega)) _ | with_reducible refine Below.trans ?_ (Below.mono (by assumption) (by first | omega | (simp; done) | (simp; omega) | (simp at *; omega)))))); clear hwb)
  obtain ⟨xc, xf⟩ := bcell wb_b
  clear wa_c0 wa_c1 wa_c2 wa_c3 wa_c4 wa_c5 wa_c6 wa_c7 wa_c8 wa_c9 w1_hc w1_hf e0 e1 e2 e3 e4
  go_region_law (fail)
  all_goals
    have HS := Lib.hid (((H.out.grow wb_b).dirNine i (by rw [← Hn.out]; exact hil) { endedZ z (z.epoch + 1) with owner := z.tt }).grow (Below.refl _ _).drew)
    go_wp2_with fail
    go_ret
    exact chPost_yes rfl HS.out
end Go.Proofs.Ytobnibdeimiinaa
