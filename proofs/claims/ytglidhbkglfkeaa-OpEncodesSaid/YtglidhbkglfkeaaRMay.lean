/- The contract of the document's May. -/
import Derived.Test.YtglidhbkglfkeaaOp
import Derived.Deep.RegionLaw
namespace Go.Proofs.Ytglidhbkglfkeaa
open Go.RowKit

theorem isKey_any (k : ByteArray) (w : World) (r : Bool) (hr : decide (1 ≤ k.size ∧ k.size ≤ 16) = r) :
    Calls Try.prog 48 #[.string k] w fun e w' => e = .returned (.bool r) ∧ Below w.heap.size w w' := by
  by_cases h1 : 1 ≤ k.size
  · by_cases h2 : k.size ≤ 16
    · obtain rfl : r = true := by rw [← hr]; simp [h1, h2]
      have d4 : decide ((k.size : Int) ≤ 16) = true := by rw [decide_eq_true_eq]; omega
      clear hr
      go_enter Try.func48, Try.ntmps48
      go_wp2_with fail
      go_ret
      exact ⟨rfl, (by repeat (first | with_reducible exact Below.refl _ _ | with_reducible assumption | with_reducible refine Below.drew ?_ | with_reducible refine below_drawn ?_ | with_reducible refine Below.alloc ?_ (by first | omega | (simp; done) | (simp; omega) | (simp at *; omega)) _ | with_reducible refine Below.setCell ?_ (by first | omega | (simp; done) | (simp; omega) | (simp at *; omega)) _ | with_reducible refine Below.trans ?_ (Below.mono (by assumption) (by first | omega | (simp; done) | (simp; omega) | (simp at *; omega)))))⟩
    · obtain rfl : r = false := by rw [← hr]; simp [h2]
      have d4 : decide ((k.size : Int) ≤ 16) = false := by rw [decide_eq_false_iff_not]; omega
      clear hr
      go_enter Try.func48, Try.ntmps48
      go_wp2_with fail
      go_ret
      exact ⟨rfl, (by repeat (first | with_reducible exact Below.refl _ _ | with_reducible assumption | with_reducible refine Below.drew ?_ | with_reducible refine below_drawn ?_ | with_reducible refine Below.alloc ?_ (by first | omega | (simp; done) | (simp; omega) | (simp at *; omega)) _ | with_reducible refine Below.setCell ?_ (by first | omega | (simp; done) | (simp; omega) | (simp at *; omega)) _ | with_reducible refine Below.trans ?_ (Below.mono (by assumption) (by first | omega | (simp; done) | (simp; omega) | (simp at *; omega)))))⟩
  · obtain rfl : r = false := by rw [← hr]; simp [h1]
    clear hr
    go_enter Try.func48, Try.ntmps48
    go_wp2_with fail
    go_ret
    exact ⟨rfl, (by repeat (first | with_reducible exact Below.refl _ _ | with_reducible assumption | with_reducible refine Below.drew ?_ | with_reducible refine below_drawn ?_ | with_reducible refine Below.alloc ?_ (by first | omega | (simp; done) | (simp; omega) | (simp at *; omega)) _ | with_reducible refine Below.setCell ?_ (by first | omega | (simp; done) | (simp; omega) | (simp at *; omega)) _ | with_reducible refine Below.trans ?_ (Below.mono (by assumption) (by first | omega | (simp; done) | (simp; omega) | (simp at *; omega)))))⟩
theorem rplace_any (k v : ByteArray) (w : World) (r : Bool) (hr : placeB k v = r) :
    Calls Try.prog 24 #[.agg #[.string k, .string v]] w fun e w' => e = .returned (.bool r) ∧ Below w.heap.size w w' := by
  have hpl : placeB k v = (decide (1 ≤ k.size ∧ k.size ≤ 16) && decide (1 ≤ v.size ∧ v.size ≤ 16)) := by
    unfold placeB; rw [← Bool.decide_and]; congr 1; simp only [and_assoc]
  rw [hpl] at hr
  cases h1 : decide (1 ≤ k.size ∧ k.size ≤ 16) with
  | true =>
    rw [h1, Bool.true_and] at hr
    have H1 := Lib.hid h1
    have H2 := Lib.hid hr
    clear h1 hr hpl
    go_enter Try.func24, Try.ntmps24
    go_wp2_with fail
    (refine calls_name fun wa hwa => ?_; have wa_s0 : w.heap.size < wa.heap.size := (by rw [hwa]; first | omega | (simp; done) | (simp; omega)); have wa_c0 : wa.cell? ⟨w.heap.size, 0, none⟩ = some (.string k) := (by rw [hwa]; go_simp); have wa_c1 : wa.cell? ⟨w.heap.size, 1, none⟩ = some (.string v) := (by rw [hwa]; go_simp); have wa_b : Below w.heap.size w wa := (by rw [hwa]; exact (by repeat (first | with_reducible exact Below.refl _ _ | with_reducible assumption | with_reducible refine Below.drew ?_ | with_reducible refine below_drawn ?_ | with_reducible refine Below.alloc ?_ (by first | omega | (simp; done) | (simp; omega) | (simp at *; omega)) _ | with_reducible refine Below.setCell ?_ (by first | omega | (simp; done) | (simp; omega) | (simp at *; omega)) _ | with_reducible refine Below.trans ?_ (Below.mono (by assumption) (by first | omega | (simp; done) | (simp; omega) | (simp at *; omega)))))); clear hwa)
    refine (isKey_any k _ true H1.out).mono ?_
    (rintro e w1 ⟨rfl, w1_h⟩; obtain ⟨w1_hc, w1_hf⟩ := bcell w1_h; have w1_z := w1_h.size; have w1_b := wa_b.trans (w1_h.mono (by have := wa_b.size; omega)); have w1_le := w1_b.size; have w1_s0 : w.heap.size < w1.heap.size := (by omega); clear w1_h)
    go_wp2_with fail
    (refine calls_name fun wb hwb => ?_; have wb_b : Below w.heap.size w wb := (by rw [hwb]; exact (by repeat (first | with_reducible exact Below.refl _ _ | with_reducible assumption | with_reducible refine Below.drew ?_ | with_reducible refine below_drawn ?_ | with_reducible refine Below.alloc ?_ (by first | omega | (simp; done) | (simp; omega) | (simp at *; omega)) _ | with_reducible refine Below.setCell ?_ (by first | omega | (simp; done) | (simp; omega) | (simp at *; omega)) _ | with_reducible refine Below.trans ?_ (Below.mono (by assumption) (by first | omega | (simp; done) | (simp; omega) | (simp at *; omega)))))); clear hwb)
    refine (isKey_any v _ r H2.out).mono ?_
    (rintro e w2 ⟨rfl, w2_h⟩; obtain ⟨w2_hc, w2_hf⟩ := bcell w2_h; have w2_z := w2_h.size; have w2_b := wb_b.trans (w2_h.mono (by have := wb_b.size; omega)); have w2_le := w2_b.size; clear w2_h)
    go_wp2_with fail
    go_ret
    exact ⟨rfl, (by repeat (first | with_reducible exact Below.refl _ _ | with_reducible assumption | with_reducible refine Below.drew ?_ | with_reducible refine below_drawn ?_ | with_reducible refine Below.alloc ?_ (by first | omega | (simp; done) | (simp; omega) | (simp at *; omega)) _ | with_reducible refine Below.setCell ?_ (by first | omega | (simp; done) | (simp; omega) | (simp at *; omega)) _ | with_reducible refine Below.trans ?_ (Below.mono (by assumption) (by first | omega | (simp; done) | (simp; omega) | (simp at *; omega)))))⟩
  | false =>
    rw [h1, Bool.false_and] at hr
    subst hr
    have H1 := Lib.hid h1
    clear h1 hpl
    go_enter Try.func24, Try.ntmps24
    go_wp2_with fail
    (refine calls_name fun wa hwa => ?_; have wa_b : Below w.heap.size w wa := (by rw [hwa]; exact (by repeat (first | with_reducible exact Below.refl _ _ | with_reducible assumption | with_reducible refine Below.drew ?_ | with_reducible refine below_drawn ?_ | with_reducible refine Below.alloc ?_ (by first | omega | (simp; done) | (simp; omega) | (simp at *; omega)) _ | with_reducible refine Below.setCell ?_ (by first | omega | (simp; done) | (simp; omega) | (simp at *; omega)) _ | with_reducible refine Below.trans ?_ (Below.mono (by assumption) (by first | omega | (simp; done) | (simp; omega) | (simp at *; omega)))))); clear hwa)
    refine (isKey_any k _ false H1.out).mono ?_
    (rintro e w1 ⟨rfl, w1_h⟩; obtain ⟨w1_hc, w1_hf⟩ := bcell w1_h; have w1_z := w1_h.size; have w1_b := wa_b.trans (w1_h.mono (by have := wa_b.size; omega)); have w1_le := w1_b.size; clear w1_h)
    go_wp2_with fail
    go_ret
    exact ⟨rfl, (by repeat (first | with_reducible exact Below.refl _ _ | with_reducible assumption | with_reducible refine Below.drew ?_ | with_reducible refine below_drawn ?_ | with_reducible refine Below.alloc ?_ (by first | omega | (simp; done) | (simp; omega) | (simp at *; omega)) _ | with_reducible refine Below.setCell ?_ (by first | omega | (simp; done) | (simp; omega) | (simp at *; omega)) _ | with_reducible refine Below.trans ?_ (Below.mono (by assumption) (by first | omega | (simp; done) | (simp; omega) | (simp at *; omega)))))⟩
theorem eqR_comm (a b : Rq) : eqR a b = eqR b a := by
  unfold eqR
  congr 1
  simp only [eq_iff_iff]
  constructor <;> (rintro ⟨h1, h2, h3, h4, h5, h6, h7, h8, h9, h10, h11, h12⟩; exact ⟨h1.symm, h2.symm, h3.symm, h4.symm, h5.symm, h6.symm, h7.symm, h8.symm, h9.symm, h10.symm, h11.symm, h12.symm⟩)
theorem e0_nil : e0.toList = [] := by simp [e0]
set_option maxRecDepth 100000 in
set_option maxHeartbeats 4000000 in
theorem rmay_no (o : Rq) (w : World) (hr : (decide (1 ≤ o.client ∧ o.client ≤ 1048576 ∧ 1 ≤ o.seq ∧ o.seq ≤ 1099511627776) && placeB o.key o.who) = false) :
    Calls Try.prog 10 #[.agg #[.int .i64 o.kind, .int .i64 o.client, .int .i64 o.seq, .string o.key, .string o.who, .string o.tkey, .string o.twho, .int .i64 o.item, .int .i64 o.count, .int .i64 o.price, .bool o.buy, .int .i64 o.id]] w fun e w' => e = .returned (.bool false) ∧ Below w.heap.size w w' := by
  by_cases q0 : o.client < 1
  · have b0 : decide (o.client < 1) = true := by rw [decide_eq_true_eq]; exact q0
    clear hr
    go_enter Try.func10, Try.ntmps10
    go_wp2_with fail
    go_ret
    exact ⟨rfl, (by repeat (first | with_reducible exact Below.refl _ _ | with_reducible assumption | with_reducible refine Below.drew ?_ | with_reducible refine below_drawn ?_ | with_reducible refine Below.alloc ?_ (by first | omega | (simp; done) | (simp; omega) | (simp at *; omega)) _ | with_reducible refine Below.setCell ?_ (by first | omega | (simp; done) | (simp; omega) | (simp at *; omega)) _ | with_reducible refine Below.trans ?_ (Below.mono (by assumption) (by first | omega | (simp; done) | (simp; omega) | (simp at *; omega)))))⟩
  have b0 : decide (o.client < 1) = false := by rw [decide_eq_false_iff_not]; exact q0
  by_cases q1 : 1048576 < o.client
  · have b1 : decide (1048576 < o.client) = true := by rw [decide_eq_true_eq]; exact q1
    clear hr
    go_enter Try.func10, Try.ntmps10
    go_wp2_with fail
    go_ret
    exact ⟨rfl, (by repeat (first | with_reducible exact Below.refl _ _ | with_reducible assumption | with_reducible refine Below.drew ?_ | with_reducible refine below_drawn ?_ | with_reducible refine Below.alloc ?_ (by first | omega | (simp; done) | (simp; omega) | (simp at *; omega)) _ | with_reducible refine Below.setCell ?_ (by first | omega | (simp; done) | (simp; omega) | (simp at *; omega)) _ | with_reducible refine Below.trans ?_ (Below.mono (by assumption) (by first | omega | (simp; done) | (simp; omega) | (simp at *; omega)))))⟩
  have b1 : decide (1048576 < o.client) = false := by rw [decide_eq_false_iff_not]; exact q1
  by_cases q2 : o.seq < 1
  · have b2 : decide (o.seq < 1) = true := by rw [decide_eq_true_eq]; exact q2
    clear hr
    go_enter Try.func10, Try.ntmps10
    go_wp2_with fail
    go_ret
    exact ⟨rfl, (by repeat (first | with_reducible exact Below.refl _ _ | with_reducible assumption | with_reducible refine Below.drew ?_ | with_reducible refine below_drawn ?_ | with_reducible refine Below.alloc ?_ (by first | omega | (simp; done) | (simp; omega) | (simp at *; omega)) _ | with_reducible refine Below.setCell ?_ (by first | omega | (simp; done) | (simp; omega) | (simp at *; omega)) _ | with_reducible refine Below.trans ?_ (Below.mono (by assumption) (by first | omega | (simp; done) | (simp; omega) | (simp at *; omega)))))⟩
  have b2 : decide (o.seq < 1) = false := by rw [decide_eq_false_iff_not]; exact q2
  by_cases q3 : 1099511627776 < o.seq
  · have b3 : decide (1099511627776 < o.seq) = true := by rw [decide_eq_true_eq]; exact q3
    clear hr
    go_enter Try.func10, Try.ntmps10
    go_wp2_with fail
    go_ret
    exact ⟨rfl, (by repeat (first | with_reducible exact Below.refl _ _ | with_reducible assumption | with_reducible refine Below.drew ?_ | with_reducible refine below_drawn ?_ | with_reducible refine Below.alloc ?_ (by first | omega | (simp; done) | (simp; omega) | (simp at *; omega)) _ | with_reducible refine Below.setCell ?_ (by first | omega | (simp; done) | (simp; omega) | (simp at *; omega)) _ | with_reducible refine Below.trans ?_ (Below.mono (by assumption) (by first | omega | (simp; done) | (simp; omega) | (simp at *; omega)))))⟩
  have b3 : decide (1099511627776 < o.seq) = false := by rw [decide_eq_false_iff_not]; exact q3
  have hp : placeB o.key o.who = false := by
    rw [Bool.and_eq_false_iff] at hr
    rcases hr with h | h
    · rw [decide_eq_false_iff_not] at h; omega
    · exact h
  have Hp := Lib.hid hp
  clear hr hp
  go_enter Try.func10, Try.ntmps10
  go_wp2_with fail
  (refine calls_name fun wa hwa => ?_; have wa_b : Below w.heap.size w wa := (by rw [hwa]; exact (by repeat (first | with_reducible exact Below.refl _ _ | with_reducible assumption | with_reducible refine Below.drew ?_ | with_reducible refine below_drawn ?_ | with_reducible refine Below.alloc ?_ (by first | omega | (simp; done) | (simp; omega) | (simp at *; omega)) _ | with_reducible refine Below.setCell ?_ (by first | omega | (simp; done) | (simp; omega) | (simp at *; omega)) _ | with_reducible refine Below.trans ?_ (Below.mono (by assumption) (by first | omega | (simp; done) | (simp; omega) | (simp at *; omega)))))); clear hwa)
  refine (rplace_any o.key o.who _ false Hp.out).mono ?_
  (rintro e w1 ⟨rfl, w1_h⟩; obtain ⟨w1_hc, w1_hf⟩ := bcell w1_h; have w1_z := w1_h.size; have w1_b := wa_b.trans (w1_h.mono (by have := wa_b.size; omega)); have w1_le := w1_b.size; clear w1_h)
  go_wp2_with fail
  go_ret
  exact ⟨rfl, (by repeat (first | with_reducible exact Below.refl _ _ | with_reducible assumption | with_reducible refine Below.drew ?_ | with_reducible refine below_drawn ?_ | with_reducible refine Below.alloc ?_ (by first | omega | (simp; done) | (simp; omega) | (simp at *; omega)) _ | with_reducible refine Below.setCell ?_ (by first | omega | (simp; done) | (simp; omega) | (simp at *; omega)) _ | with_reducible refine Below.trans ?_ (Below.mono (by assumption) (by first | omega | (simp; done) | (simp; omega) | (simp at *; omega)))))⟩
set_option maxRecDepth 100000 in
set_option maxHeartbeats 4000000 in
theorem rmay_out (o : Rq) (w : World) (c1 : 1 ≤ o.client) (c2 : o.client ≤ 1048576) (c3 : 1 ≤ o.seq) (c4 : o.seq ≤ 1099511627776) (hp : placeB o.key o.who = true) (hk : o.kind < 1 ∨ 7 < o.kind) :
    Calls Try.prog 10 #[.agg #[.int .i64 o.kind, .int .i64 o.client, .int .i64 o.seq, .string o.key, .string o.who, .string o.tkey, .string o.twho, .int .i64 o.item, .int .i64 o.count, .int .i64 o.price, .bool o.buy, .int .i64 o.id]] w fun e w' => e = .returned (.bool false) ∧ Below w.heap.size w w' := by
  have Hp := Lib.hid hp
  clear hp
  have k1 : (o.kind == 1) = false := by rw [beq_eq_false_iff_ne]; omega
  have k2 : (o.kind == 2) = false := by rw [beq_eq_false_iff_ne]; omega
  have k3 : (o.kind == 3) = false := by rw [beq_eq_false_iff_ne]; omega
  have k4 : (o.kind == 4) = false := by rw [beq_eq_false_iff_ne]; omega
  have k5 : (o.kind == 5) = false := by rw [beq_eq_false_iff_ne]; omega
  have k6 : (o.kind == 6) = false := by rw [beq_eq_false_iff_ne]; omega
  have k7 : (o.kind == 7) = false := by rw [beq_eq_false_iff_ne]; omega
  have d2 : decide (1048576 < o.client) = false := by rw [decide_eq_false_iff_not]; omega
  have d1 : decide (o.client < 1) = false := by rw [decide_eq_false_iff_not]; omega
  have d3 : decide (o.seq < 1) = false := by rw [decide_eq_false_iff_not]; omega
  have d4 : decide (1099511627776 < o.seq) = false := by rw [decide_eq_false_iff_not]; omega
  clear hk
  go_enter Try.func10, Try.ntmps10
  go_wp2_with fail
  (refine calls_name fun wa hwa => ?_; have wa_s0 : w.heap.size < wa.heap.size := (by rw [hwa]; first | omega | (simp; done) | (simp; omega)); have wa_c0 : wa.cell? ⟨w.heap.size, 0, none⟩ = some (.int .i64 o.kind) := (by rw [hwa]; go_simp); have wa_c1 : wa.cell? ⟨w.heap.size, 1, none⟩ = some (.int .i64 o.client) := (by rw [hwa]; go_simp); have wa_c2 : wa.cell? ⟨w.heap.size, 2, none⟩ = some (.int .i64 o.seq) := (by rw [hwa]; go_simp); have wa_c3 : wa.cell? ⟨w.heap.size, 3, none⟩ = some (.string o.key) := (by rw [hwa]; go_simp); have wa_c4 : wa.cell? ⟨w.heap.size, 4, none⟩ = some (.string o.who) := (by rw [hwa]; go_simp); have wa_c5 : wa.cell? ⟨w.heap.size, 5, none⟩ = some (.string o.tkey) := (by rw [hwa]; go_simp); have wa_c6 : wa.cell? ⟨w.heap.size, 6, none⟩ = some (.string o.twho) := (by rw [hwa]; go_simp); have wa_c7 : wa.cell? ⟨w.heap.size, 7, none⟩ = some (.int .i64 o.item) := (by rw [hwa]; go_simp); have wa_c8 : wa.cell? ⟨w.heap.size, 8, none⟩ = some (.int .i64 o.count) := (by rw [hwa]; go_simp); have wa_c9 : wa.cell? ⟨w.heap.size, 9, none⟩ = some (.int .i64 o.price) := (by rw [hwa]; go_simp); have wa_c10 : wa.cell? ⟨w.heap.size, 10, none⟩ = some (.bool o.buy) := (by rw [hwa]; go_simp); have wa_c11 : wa.cell? ⟨w.heap.size, 11, none⟩ = some (.int .i64 o.id) := (by rw [hwa]; go_simp); have wa_b : Below w.heap.size w wa := (by rw [hwa]; exact (by repeat (first | with_reducible exact Below.refl _ _ | with_reducible assumption | with_reducible refine Below.drew ?_ | with_reducible refine below_drawn ?_ | with_reducible refine Below.alloc ?_ (by first | omega | (simp; done) | (simp; omega) | (simp at *; omega)) _ | with_reducible refine Below.setCell ?_ (by first | omega | (simp; done) | (simp; omega) | (simp at *; omega)) _ | with_reducible refine Below.trans ?_ (Below.mono (by assumption) (by first | omega | (simp; done) | (simp; omega) | (simp at *; omega)))))); clear hwa)
  refine (rplace_any o.key o.who _ true Hp.out).mono ?_
  (rintro e w1 ⟨rfl, w1_h⟩; obtain ⟨w1_hc, w1_hf⟩ := bcell w1_h; have w1_z := w1_h.size; have w1_b := wa_b.trans (w1_h.mono (by have := wa_b.size; omega)); have w1_le := w1_b.size; have w1_s0 : w.heap.size < w1.heap.size := (by omega); clear w1_h)
  go_wp2_with fail
  go_ret
  exact ⟨rfl, (by repeat (first | with_reducible exact Below.refl _ _ | with_reducible assumption | with_reducible refine Below.drew ?_ | with_reducible refine below_drawn ?_ | with_reducible refine Below.alloc ?_ (by first | omega | (simp; done) | (simp; omega) | (simp at *; omega)) _ | with_reducible refine Below.setCell ?_ (by first | omega | (simp; done) | (simp; omega) | (simp at *; omega)) _ | with_reducible refine Below.trans ?_ (Below.mono (by assumption) (by first | omega | (simp; done) | (simp; omega) | (simp at *; omega)))))⟩
end Go.Proofs.Ytglidhbkglfkeaa
