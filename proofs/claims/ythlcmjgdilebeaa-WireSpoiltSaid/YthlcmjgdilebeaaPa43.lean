/- Texts put together: RMa4, RMa5. -/
import Derived.Test.YthlcmjgdilebeaaPa39
namespace Go.Proofs.Ythlcmjgdilebeaa
open Go.RowKit

set_option maxRecDepth 100000 in
set_option maxHeartbeats 8000000 in
theorem rmay_4 (o : Rq) (w : World) (r : Bool) (c1 : 1 ≤ o.client) (c2 : o.client ≤ 1048576) (c3 : 1 ≤ o.seq) (c4 : o.seq ≤ 1099511627776) (hp : placeB o.key o.who = true) (hr : mayO { o with kind := 4 } = r) :
    Calls Try.prog 17 #[.agg #[.int .i64 4, .int .i64 o.client, .int .i64 o.seq, .string o.key, .string o.who, .string o.tkey, .string o.twho, .int .i64 o.item, .int .i64 o.count, .int .i64 o.price, .bool o.buy, .int .i64 o.id]] w fun e w' => e = .returned (.bool r) ∧ Below w.heap.size w w' := by
  have Hp := Lib.hid hp
  have hkind : kindO { o with kind := 4 } = canO { o with kind := 4 } := by simp [kindO]
  have hr2 : kindO { o with kind := 4 } = r := by rw [← hr]; simp [mayO, hp, c1, c2, c3, c4]
  rw [hkind] at hr2
  clear hp hr hkind
  have hr := hr2
  simp only [canO] at hr
  clear hr2
  have d2 : decide (1048576 < o.client) = false := by rw [decide_eq_false_iff_not]; omega
  have d1 : decide (o.client < 1) = false := by rw [decide_eq_false_iff_not]; omega
  have d3 : decide (o.seq < 1) = false := by rw [decide_eq_false_iff_not]; omega
  have d4 : decide (1099511627776 < o.seq) = false := by rw [decide_eq_false_iff_not]; omega
  by_cases q0 : 1 ≤ o.id
  · have b0 : decide (1 ≤ o.id) = true := by rw [decide_eq_true_eq]; exact q0
    by_cases q1 : o.id ≤ 1099511627776
    · have b1 : decide (o.id ≤ 1099511627776) = true := by rw [decide_eq_true_eq]; exact q1
      have heq := fun w => eql_api.Op ⟨4, o.client, o.seq, o.key, o.who, ⟨#[]⟩, ⟨#[]⟩, 0, 0, 0, false, o.id⟩ { o with kind := 4 } w r (by rw [eqR_comm, ← hr]; simp [eqR, q0, q1])
      simp only at heq
      clear hr
      (go_enter Try.func17, Try.ntmps17; (go_wp2_with fail); (refine calls_name fun wa hwa => ?_; have wa_s0 : w.heap.size < wa.heap.size := szg hwa; have wa_c0 : wa.cell? ⟨w.heap.size, 0, none⟩ = some (.int .i64 4) := cg hwa; have wa_c1 : wa.cell? ⟨w.heap.size, 1, none⟩ = some (.int .i64 o.client) := cg hwa; have wa_c2 : wa.cell? ⟨w.heap.size, 2, none⟩ = some (.int .i64 o.seq) := cg hwa; have wa_c3 : wa.cell? ⟨w.heap.size, 3, none⟩ = some (.string o.key) := cg hwa; have wa_c4 : wa.cell? ⟨w.heap.size, 4, none⟩ = some (.string o.who) := cg hwa; have wa_c5 : wa.cell? ⟨w.heap.size, 5, none⟩ = some (.string o.tkey) := cg hwa; have wa_c6 : wa.cell? ⟨w.heap.size, 6, none⟩ = some (.string o.twho) := cg hwa; have wa_c7 : wa.cell? ⟨w.heap.size, 7, none⟩ = some (.int .i64 o.item) := cg hwa; have wa_c8 : wa.cell? ⟨w.heap.size, 8, none⟩ = some (.int .i64 o.count) := cg hwa; have wa_c9 : wa.cell? ⟨w.heap.size, 9, none⟩ = some (.int .i64 o.price) := cg hwa; have wa_c10 : wa.cell? ⟨w.heap.size, 10, none⟩ = some (.bool o.buy) := cg hwa; have wa_c11 : wa.cell? ⟨w.heap.size, 11, none⟩ = some (.int .i64 o.id) := cg hwa; have wa_b : Below w.heap.size w wa := (by rw [hwa]; exact bg); clear hwa); (refine (rplace_any o.key o.who _ true Hp.out).mono ?_); (rintro e w1 ⟨rfl, w1_h⟩; obtain ⟨w1_hc, w1_hf⟩ := bcell w1_h; have w1_z := w1_h.size; have w1_b := wa_b.trans (w1_h.mono (by have := wa_b.size; omega)); have w1_le := w1_b.size; have w1_s0 : w.heap.size < w1.heap.size := (by omega); clear w1_h); (go_wp2_with fail))
      go_ret
      exact ⟨rfl, bg⟩
    · have b1 : decide (o.id ≤ 1099511627776) = false := by rw [decide_eq_false_iff_not]; exact q1
      have hrf : r = false := by rw [← hr]; simp; omega
      clear hr
      subst hrf
      (go_enter Try.func17, Try.ntmps17; (go_wp2_with fail); (refine calls_name fun wa hwa => ?_; have wa_s0 : w.heap.size < wa.heap.size := szg hwa; have wa_c0 : wa.cell? ⟨w.heap.size, 0, none⟩ = some (.int .i64 4) := cg hwa; have wa_c1 : wa.cell? ⟨w.heap.size, 1, none⟩ = some (.int .i64 o.client) := cg hwa; have wa_c2 : wa.cell? ⟨w.heap.size, 2, none⟩ = some (.int .i64 o.seq) := cg hwa; have wa_c3 : wa.cell? ⟨w.heap.size, 3, none⟩ = some (.string o.key) := cg hwa; have wa_c4 : wa.cell? ⟨w.heap.size, 4, none⟩ = some (.string o.who) := cg hwa; have wa_c5 : wa.cell? ⟨w.heap.size, 5, none⟩ = some (.string o.tkey) := cg hwa; have wa_c6 : wa.cell? ⟨w.heap.size, 6, none⟩ = some (.string o.twho) := cg hwa; have wa_c7 : wa.cell? ⟨w.heap.size, 7, none⟩ = some (.int .i64 o.item) := cg hwa; have wa_c8 : wa.cell? ⟨w.heap.size, 8, none⟩ = some (.int .i64 o.count) := cg hwa; have wa_c9 : wa.cell? ⟨w.heap.size, 9, none⟩ = some (.int .i64 o.price) := cg hwa; have wa_c10 : wa.cell? ⟨w.heap.size, 10, none⟩ = some (.bool o.buy) := cg hwa; have wa_c11 : wa.cell? ⟨w.heap.size, 11, none⟩ = some (.int .i64 o.id) := cg hwa; have wa_b : Below w.heap.size w wa := (by rw [hwa]; exact bg); clear hwa); (refine (rplace_any o.key o.who _ true Hp.out).mono ?_); (rintro e w1 ⟨rfl, w1_h⟩; obtain ⟨w1_hc, w1_hf⟩ := bcell w1_h; have w1_z := w1_h.size; have w1_b := wa_b.trans (w1_h.mono (by have := wa_b.size; omega)); have w1_le := w1_b.size; have w1_s0 : w.heap.size < w1.heap.size := (by omega); clear w1_h); (go_wp2_with fail))
      go_ret
      exact ⟨rfl, bg⟩
  · have b0 : decide (1 ≤ o.id) = false := by rw [decide_eq_false_iff_not]; exact q0
    have hrf : r = false := by rw [← hr]; simp; omega
    clear hr
    subst hrf
    (go_enter Try.func17, Try.ntmps17; (go_wp2_with fail); (refine calls_name fun wa hwa => ?_; have wa_s0 : w.heap.size < wa.heap.size := szg hwa; have wa_c0 : wa.cell? ⟨w.heap.size, 0, none⟩ = some (.int .i64 4) := cg hwa; have wa_c1 : wa.cell? ⟨w.heap.size, 1, none⟩ = some (.int .i64 o.client) := cg hwa; have wa_c2 : wa.cell? ⟨w.heap.size, 2, none⟩ = some (.int .i64 o.seq) := cg hwa; have wa_c3 : wa.cell? ⟨w.heap.size, 3, none⟩ = some (.string o.key) := cg hwa; have wa_c4 : wa.cell? ⟨w.heap.size, 4, none⟩ = some (.string o.who) := cg hwa; have wa_c5 : wa.cell? ⟨w.heap.size, 5, none⟩ = some (.string o.tkey) := cg hwa; have wa_c6 : wa.cell? ⟨w.heap.size, 6, none⟩ = some (.string o.twho) := cg hwa; have wa_c7 : wa.cell? ⟨w.heap.size, 7, none⟩ = some (.int .i64 o.item) := cg hwa; have wa_c8 : wa.cell? ⟨w.heap.size, 8, none⟩ = some (.int .i64 o.count) := cg hwa; have wa_c9 : wa.cell? ⟨w.heap.size, 9, none⟩ = some (.int .i64 o.price) := cg hwa; have wa_c10 : wa.cell? ⟨w.heap.size, 10, none⟩ = some (.bool o.buy) := cg hwa; have wa_c11 : wa.cell? ⟨w.heap.size, 11, none⟩ = some (.int .i64 o.id) := cg hwa; have wa_b : Below w.heap.size w wa := (by rw [hwa]; exact bg); clear hwa); (refine (rplace_any o.key o.who _ true Hp.out).mono ?_); (rintro e w1 ⟨rfl, w1_h⟩; obtain ⟨w1_hc, w1_hf⟩ := bcell w1_h; have w1_z := w1_h.size; have w1_b := wa_b.trans (w1_h.mono (by have := wa_b.size; omega)); have w1_le := w1_b.size; have w1_s0 : w.heap.size < w1.heap.size := (by omega); clear w1_h); (go_wp2_with fail))
    go_ret
    exact ⟨rfl, bg⟩
end Go.Proofs.Ythlcmjgdilebeaa

namespace Go.Proofs.Ythlcmjgdilebeaa
open Go.RowKit

set_option maxRecDepth 100000 in
set_option maxHeartbeats 8000000 in
theorem rmay_5 (o : Rq) (w : World) (r : Bool) (c1 : 1 ≤ o.client) (c2 : o.client ≤ 1048576) (c3 : 1 ≤ o.seq) (c4 : o.seq ≤ 1099511627776) (hp : placeB o.key o.who = true) (hr : mayO { o with kind := 5 } = r) :
    Calls Try.prog 17 #[.agg #[.int .i64 5, .int .i64 o.client, .int .i64 o.seq, .string o.key, .string o.who, .string o.tkey, .string o.twho, .int .i64 o.item, .int .i64 o.count, .int .i64 o.price, .bool o.buy, .int .i64 o.id]] w fun e w' => e = .returned (.bool r) ∧ Below w.heap.size w w' := by
  have Hp := Lib.hid hp
  have hkind : kindO { o with kind := 5 } = barO { o with kind := 5 } := by simp [kindO]
  have hr2 : kindO { o with kind := 5 } = r := by rw [← hr]; simp [mayO, hp, c1, c2, c3, c4]
  rw [hkind] at hr2
  clear hp hr hkind
  have hr := hr2
  simp only [barO] at hr
  clear hr2
  have d2 : decide (1048576 < o.client) = false := by rw [decide_eq_false_iff_not]; omega
  have d1 : decide (o.client < 1) = false := by rw [decide_eq_false_iff_not]; omega
  have d3 : decide (o.seq < 1) = false := by rw [decide_eq_false_iff_not]; omega
  have d4 : decide (1099511627776 < o.seq) = false := by rw [decide_eq_false_iff_not]; omega
  have heq := fun w => eql_api.Op ⟨5, o.client, o.seq, o.key, o.who, ⟨#[]⟩, ⟨#[]⟩, 0, 0, 0, false, 0⟩ { o with kind := 5 } w r (by rw [eqR_comm, ← hr]; simp [eqR])
  simp only at heq
  clear hr
  (go_enter Try.func17, Try.ntmps17; (go_wp2_with fail); (refine calls_name fun wa hwa => ?_; have wa_s0 : w.heap.size < wa.heap.size := szg hwa; have wa_c0 : wa.cell? ⟨w.heap.size, 0, none⟩ = some (.int .i64 5) := cg hwa; have wa_c1 : wa.cell? ⟨w.heap.size, 1, none⟩ = some (.int .i64 o.client) := cg hwa; have wa_c2 : wa.cell? ⟨w.heap.size, 2, none⟩ = some (.int .i64 o.seq) := cg hwa; have wa_c3 : wa.cell? ⟨w.heap.size, 3, none⟩ = some (.string o.key) := cg hwa; have wa_c4 : wa.cell? ⟨w.heap.size, 4, none⟩ = some (.string o.who) := cg hwa; have wa_c5 : wa.cell? ⟨w.heap.size, 5, none⟩ = some (.string o.tkey) := cg hwa; have wa_c6 : wa.cell? ⟨w.heap.size, 6, none⟩ = some (.string o.twho) := cg hwa; have wa_c7 : wa.cell? ⟨w.heap.size, 7, none⟩ = some (.int .i64 o.item) := cg hwa; have wa_c8 : wa.cell? ⟨w.heap.size, 8, none⟩ = some (.int .i64 o.count) := cg hwa; have wa_c9 : wa.cell? ⟨w.heap.size, 9, none⟩ = some (.int .i64 o.price) := cg hwa; have wa_c10 : wa.cell? ⟨w.heap.size, 10, none⟩ = some (.bool o.buy) := cg hwa; have wa_c11 : wa.cell? ⟨w.heap.size, 11, none⟩ = some (.int .i64 o.id) := cg hwa; have wa_b : Below w.heap.size w wa := (by rw [hwa]; exact bg); clear hwa); (refine (rplace_any o.key o.who _ true Hp.out).mono ?_); (rintro e w1 ⟨rfl, w1_h⟩; obtain ⟨w1_hc, w1_hf⟩ := bcell w1_h; have w1_z := w1_h.size; have w1_b := wa_b.trans (w1_h.mono (by have := wa_b.size; omega)); have w1_le := w1_b.size; have w1_s0 : w.heap.size < w1.heap.size := (by omega); clear w1_h); (go_wp2_with fail))
  go_ret
  exact ⟨rfl, bg⟩
end Go.Proofs.Ythlcmjgdilebeaa
