/- Contracts of package span's functions and of the reference's: what each call gives back, and that of the old memory nothing turns. -/
import Derived.Test.YtobnibdeimiinaaKit
import Derived.Test.YtobnibdeimiinaaPlain
namespace Go.Proofs.Ytobnibdeimiinaa
open Go.RowKit

set_option maxHeartbeats 1000000 in
theorem span_is (f t : ByteArray) (w : World) :
    Calls Try.prog 91 #[.agg #[.string f, .string t]] w fun e w' => e = .returned (.bool (isB f t)) ∧ Below w.heap.size w w' := by
  go_enter Try.func91, Try.ntmps91
  go_wp2
  all_goals (go_ret; refine ⟨?_, (by repeat (first | with_reducible exact Below.refl _ _ | with_reducible assumption | with_reducible refine Below.drew ?_ | with_reducible refine below_drawn ?_ | with_reducible refine Below.alloc ?_ (by first | omega | (simp; done) | (simp; omega) | (simp at *; omega)) _ | with_reducible refine Below.setCell ?_ (by first | omega | (simp; done) | (simp; omega) | (simp at *; omega)) _ | with_reducible refine Below.trans ?_ (Below.mono (by assumption) (by first | omega | (simp; done) | (simp; omega) | (simp at *; omega)))))⟩)
  all_goals (simp [isB, gtB, *]; try omega)

set_option maxHeartbeats 1000000 in
theorem span_in (f t k : ByteArray) (w : World) :
    Calls Try.prog 53 #[.agg #[.string f, .string t], .string k] w fun e w' => e = .returned (.bool (inB f t k)) ∧ Below w.heap.size w w' := by
  go_enter Try.func53, Try.ntmps53
  go_wp2_with fail
  (refine calls_name fun wa hwa => ?_; have wa_s0 : w.heap.size < wa.heap.size := (by rw [hwa]; first | omega | (simp; done) | (simp; omega)); have wa_c0 : wa.cell? ⟨w.heap.size, 0, none⟩ = some (.string f) := (by rw [hwa]; go_simp); have wa_c1 : wa.cell? ⟨w.heap.size, 1, none⟩ = some (.string t) := (by rw [hwa]; go_simp); have wa_b : Below w.heap.size w wa := (by rw [hwa]; exact (by repeat (first | with_reducible exact Below.refl _ _ | with_reducible assumption | with_reducible refine Below.drew ?_ | with_reducible refine below_drawn ?_ | with_reducible refine Below.alloc ?_ (by first | omega | (simp; done) | (simp; omega) | (simp at *; omega)) _ | with_reducible refine Below.setCell ?_ (by first | omega | (simp; done) | (simp; omega) | (simp at *; omega)) _ | with_reducible refine Below.trans ?_ (Below.mono (by assumption) (by first | omega | (simp; done) | (simp; omega) | (simp at *; omega)))))); clear hwa)
  refine (span_is _ _ _).mono ?_
  (rintro e w1 ⟨rfl, w1_h⟩; obtain ⟨w1_hc, w1_hf⟩ := bcell w1_h; have w1_z := w1_h.size; have w1_b := wa_b.trans (w1_h.mono (by have := wa_b.size; omega)); have w1_le := w1_b.size; clear w1_h)
  go_wp2_with fail
  all_goals (go_ret; refine ⟨?_, (by repeat (first | with_reducible exact Below.refl _ _ | with_reducible assumption | with_reducible refine Below.drew ?_ | with_reducible refine below_drawn ?_ | with_reducible refine Below.alloc ?_ (by first | omega | (simp; done) | (simp; omega) | (simp at *; omega)) _ | with_reducible refine Below.setCell ?_ (by first | omega | (simp; done) | (simp; omega) | (simp at *; omega)) _ | with_reducible refine Below.trans ?_ (Below.mono (by assumption) (by first | omega | (simp; done) | (simp; omega) | (simp at *; omega)))))⟩)
  all_goals (simp [inB, *]; try omega)

set_option maxHeartbeats 1000000 in
theorem span_cut (f t k : ByteArray) (w : World) :
    Calls Try.prog 75 #[.agg #[.string f, .string t], .string k] w fun e w' => e = .returned (.tuple #[.agg #[.string (sel (cutOk f t k) f), .string (sel (cutOk f t k) k)], .agg #[.string (sel (cutOk f t k) k), .string (sel (cutOk f t k) t)], .bool (cutOk f t k)]) ∧ Below w.heap.size w w' := by
  go_enter Try.func75, Try.ntmps75
  go_wp2_with fail
  (refine calls_name fun wa hwa => ?_; have wa_s0 : w.heap.size < wa.heap.size := (by rw [hwa]; first | omega | (simp; done) | (simp; omega)); have wa_s1 : w.heap.size + 1 < wa.heap.size := (by rw [hwa]; first | omega | (simp; done) | (simp; omega)); have wa_s2 : w.heap.size + 2 < wa.heap.size := (by rw [hwa]; first | omega | (simp; done) | (simp; omega)); have wa_c0 : wa.cell? ⟨w.heap.size, 0, none⟩ = some (.string f) := (by rw [hwa]; go_simp); have wa_c1 : wa.cell? ⟨w.heap.size, 1, none⟩ = some (.string t) := (by rw [hwa]; go_simp); have wa_c2 : wa.cell? ⟨w.heap.size + 1, 0, none⟩ = some (.string ⟨#[]⟩) := (by rw [hwa]; go_simp); have wa_f2 : wa.frozen? ⟨w.heap.size + 1, 0, none⟩ = false := (by rw [hwa]; go_simp); have wa_c3 : wa.cell? ⟨w.heap.size + 1, 1, none⟩ = some (.string ⟨#[]⟩) := (by rw [hwa]; go_simp); have wa_f3 : wa.frozen? ⟨w.heap.size + 1, 1, none⟩ = false := (by rw [hwa]; go_simp); have wa_c4 : wa.cell? ⟨w.heap.size + 2, 0, none⟩ = some (.string ⟨#[]⟩) := (by rw [hwa]; go_simp); have wa_f4 : wa.frozen? ⟨w.heap.size + 2, 0, none⟩ = false := (by rw [hwa]; go_simp); have wa_c5 : wa.cell? ⟨w.heap.size + 2, 1, none⟩ = some (.string ⟨#[]⟩) := (by rw [hwa]; go_simp); have wa_f5 : wa.frozen? ⟨w.heap.size + 2, 1, none⟩ = false := (by rw [hwa]; go_simp); have wa_b : Below w.heap.size w wa := (by rw [hwa]; exact (by repeat (first | with_reducible exact Below.refl _ _ | with_reducible assumption | with_reducible refine Below.drew ?_ | with_reducible refine below_drawn ?_ | with_reducible refine Below.alloc ?_ (by first | omega | (simp; done) | (simp; omega) | (simp at *; omega)) _ | with_reducible refine Below.setCell ?_ (by first | omega | (simp; done) | (simp; omega) | (simp at *; omega)) _ | with_reducible refine Below.trans ?_ (Below.mono (by assumption) (by first | omega | (simp; done) | (simp; omega) | (simp at *; omega)))))); clear hwa)
  refine (span_in _ _ _ _).mono ?_
  (rintro e w1 ⟨rfl, w1_h⟩; obtain ⟨w1_hc, w1_hf⟩ := bcell w1_h; have w1_z := w1_h.size; have w1_b := wa_b.trans (w1_h.mono (by have := wa_b.size; omega)); have w1_le := w1_b.size; have w1_s0 : w.heap.size < w1.heap.size := (by omega); have w1_s1 : w.heap.size + 1 < w1.heap.size := (by omega); have w1_s2 : w.heap.size + 2 < w1.heap.size := (by omega); clear w1_h)
  go_wp2_with fail
  rotate_left
  · go_region_held3 (fun W => W.cell? ⟨w.heap.size, 0, none⟩ = some (.string f) ∧ W.cell? ⟨w.heap.size, 1, none⟩ = some (.string t)) (go_simp) (fail)
    go_wp2_with fail
    refine bodyPost_ret (v := .tuple #[.agg #[.string f, .string k], .agg #[.string k, .string t], .bool true]) (by simp [results, Try.results75, go_sem, *]) rfl ⟨?_, (by repeat (first | with_reducible exact Below.refl _ _ | with_reducible assumption | with_reducible refine Below.drew ?_ | with_reducible refine below_drawn ?_ | with_reducible refine Below.alloc ?_ (by first | omega | (simp; done) | (simp; omega) | (simp at *; omega)) _ | with_reducible refine Below.setCell ?_ (by first | omega | (simp; done) | (simp; omega) | (simp at *; omega)) _ | with_reducible refine Below.trans ?_ (Below.mono (by assumption) (by first | omega | (simp; done) | (simp; omega) | (simp at *; omega)))))⟩
    simp [cutOk, leB, sel, *]
  all_goals (refine bodyPost_ret (v := .tuple #[.agg #[.string ⟨#[]⟩, .string ⟨#[]⟩], .agg #[.string ⟨#[]⟩, .string ⟨#[]⟩], .bool false]) (by simp [results, Try.results75, go_sem, *]) rfl ⟨?_, (by repeat (first | with_reducible exact Below.refl _ _ | with_reducible assumption | with_reducible refine Below.drew ?_ | with_reducible refine below_drawn ?_ | with_reducible refine Below.alloc ?_ (by first | omega | (simp; done) | (simp; omega) | (simp at *; omega)) _ | with_reducible refine Below.setCell ?_ (by first | omega | (simp; done) | (simp; omega) | (simp at *; omega)) _ | with_reducible refine Below.trans ?_ (Below.mono (by assumption) (by first | omega | (simp; done) | (simp; omega) | (simp at *; omega)))))⟩)
  · simp [cutOk, sel, *]
  · rcases ‹_ ∨ _› with h | h <;> simp [cutOk, leB, sel, h]
set_option maxHeartbeats 1000000 in
theorem satrapyref12_is (f t : ByteArray) (w : World) :
    Calls Try.prog 44 #[.agg #[.string f, .string t]] w fun e w' => e = .returned (.bool (isB f t)) ∧ Below w.heap.size w w' := by
  go_enter Try.func44, Try.ntmps44
  go_wp2
  all_goals (go_ret; refine ⟨?_, (by repeat (first | with_reducible exact Below.refl _ _ | with_reducible assumption | with_reducible refine Below.drew ?_ | with_reducible refine below_drawn ?_ | with_reducible refine Below.alloc ?_ (by first | omega | (simp; done) | (simp; omega) | (simp at *; omega)) _ | with_reducible refine Below.setCell ?_ (by first | omega | (simp; done) | (simp; omega) | (simp at *; omega)) _ | with_reducible refine Below.trans ?_ (Below.mono (by assumption) (by first | omega | (simp; done) | (simp; omega) | (simp at *; omega)))))⟩)
  all_goals (simp [isB, gtB, *]; try omega)

set_option maxHeartbeats 1000000 in
theorem satrapyref12_in (f t k : ByteArray) (w : World) :
    Calls Try.prog 18 #[.agg #[.string f, .string t], .string k] w fun e w' => e = .returned (.bool (inB f t k)) ∧ Below w.heap.size w w' := by
  go_enter Try.func18, Try.ntmps18
  go_wp2_with fail
  (refine calls_name fun wa hwa => ?_; have wa_s0 : w.heap.size < wa.heap.size := (by rw [hwa]; first | omega | (simp; done) | (simp; omega)); have wa_c0 : wa.cell? ⟨w.heap.size, 0, none⟩ = some (.string f) := (by rw [hwa]; go_simp); have wa_c1 : wa.cell? ⟨w.heap.size, 1, none⟩ = some (.string t) := (by rw [hwa]; go_simp); have wa_b : Below w.heap.size w wa := (by rw [hwa]; exact (by repeat (first | with_reducible exact Below.refl _ _ | with_reducible assumption | with_reducible refine Below.drew ?_ | with_reducible refine below_drawn ?_ | with_reducible refine Below.alloc ?_ (by first | omega | (simp; done) | (simp; omega) | (simp at *; omega)) _ | with_reducible refine Below.setCell ?_ (by first | omega | (simp; done) | (simp; omega) | (simp at *; omega)) _ | with_reducible refine Below.trans ?_ (Below.mono (by assumption) (by first | omega | (simp; done) | (simp; omega) | (simp at *; omega)))))); clear hwa)
  refine (satrapyref12_is _ _ _).mono ?_
  (rintro e w1 ⟨rfl, w1_h⟩; obtain ⟨w1_hc, w1_hf⟩ := bcell w1_h; have w1_z := w1_h.size; have w1_b := wa_b.trans (w1_h.mono (by have := wa_b.size; omega)); have w1_le := w1_b.size; clear w1_h)
  go_wp2_with fail
  all_goals (go_ret; refine ⟨?_, (by repeat (first | with_reducible exact Below.refl _ _ | with_reducible assumption | with_reducible refine Below.drew ?_ | with_reducible refine below_drawn ?_ | with_reducible refine Below.alloc ?_ (by first | omega | (simp; done) | (simp; omega) | (simp at *; omega)) _ | with_reducible refine Below.setCell ?_ (by first | omega | (simp; done) | (simp; omega) | (simp at *; omega)) _ | with_reducible refine Below.trans ?_ (Below.mono (by assumption) (by first | omega | (simp; done) | (simp; omega) | (simp at *; omega)))))⟩)
  all_goals (simp [inB, *]; try omega)

set_option maxHeartbeats 1000000 in
theorem satrapyref12_cut (f t k : ByteArray) (w : World) :
    Calls Try.prog 84 #[.agg #[.string f, .string t], .string k] w fun e w' => e = .returned (.tuple #[.agg #[.string (sel (cutOk f t k) f), .string (sel (cutOk f t k) k)], .agg #[.string (sel (cutOk f t k) k), .string (sel (cutOk f t k) t)], .bool (cutOk f t k)]) ∧ Below w.heap.size w w' := by
  go_enter Try.func84, Try.ntmps84
  go_wp2_with fail
  (refine calls_name fun wa hwa => ?_; have wa_s0 : w.heap.size < wa.heap.size := (by rw [hwa]; first | omega | (simp; done) | (simp; omega)); have wa_s1 : w.heap.size + 1 < wa.heap.size := (by rw [hwa]; first | omega | (simp; done) | (simp; omega)); have wa_s2 : w.heap.size + 2 < wa.heap.size := (by rw [hwa]; first | omega | (simp; done) | (simp; omega)); have wa_c0 : wa.cell? ⟨w.heap.size, 0, none⟩ = some (.string f) := (by rw [hwa]; go_simp); have wa_c1 : wa.cell? ⟨w.heap.size, 1, none⟩ = some (.string t) := (by rw [hwa]; go_simp); have wa_c2 : wa.cell? ⟨w.heap.size + 1, 0, none⟩ = some (.string ⟨#[]⟩) := (by rw [hwa]; go_simp); have wa_f2 : wa.frozen? ⟨w.heap.size + 1, 0, none⟩ = false := (by rw [hwa]; go_simp); have wa_c3 : wa.cell? ⟨w.heap.size + 1, 1, none⟩ = some (.string ⟨#[]⟩) := (by rw [hwa]; go_simp); have wa_f3 : wa.frozen? ⟨w.heap.size + 1, 1, none⟩ = false := (by rw [hwa]; go_simp); have wa_c4 : wa.cell? ⟨w.heap.size + 2, 0, none⟩ = some (.string ⟨#[]⟩) := (by rw [hwa]; go_simp); have wa_f4 : wa.frozen? ⟨w.heap.size + 2, 0, none⟩ = false := (by rw [hwa]; go_simp); have wa_c5 : wa.cell? ⟨w.heap.size + 2, 1, none⟩ = some (.string ⟨#[]⟩) := (by rw [hwa]; go_simp); have wa_f5 : wa.frozen? ⟨w.heap.size + 2, 1, none⟩ = false := (by rw [hwa]; go_simp); have wa_b : Below w.heap.size w wa := (by rw [hwa]; exact (by repeat (first | with_reducible exact Below.refl _ _ | with_reducible assumption | with_reducible refine Below.drew ?_ | with_reducible refine below_drawn ?_ | with_reducible refine Below.alloc ?_ (by first | omega | (simp; done) | (simp; omega) | (simp at *; omega)) _ | with_reducible refine Below.setCell ?_ (by first | omega | (simp; done) | (simp; omega) | (simp at *; omega)) _ | with_reducible refine Below.trans ?_ (Below.mono (by assumption) (by first | omega | (simp; done) | (simp; omega) | (simp at *; omega)))))); clear hwa)
  refine (satrapyref12_in _ _ _ _).mono ?_
  (rintro e w1 ⟨rfl, w1_h⟩; obtain ⟨w1_hc, w1_hf⟩ := bcell w1_h; have w1_z := w1_h.size; have w1_b := wa_b.trans (w1_h.mono (by have := wa_b.size; omega)); have w1_le := w1_b.size; have w1_s0 : w.heap.size < w1.heap.size := (by omega); have w1_s1 : w.heap.size + 1 < w1.heap.size := (by omega); have w1_s2 : w.heap.size + 2 < w1.heap.size := (by omega); clear w1_h)
  go_wp2_with fail
  rotate_left
  · go_region_held3 (fun W => W.cell? ⟨w.heap.size, 0, none⟩ = some (.string f) ∧ W.cell? ⟨w.heap.size, 1, none⟩ = some (.string t)) (go_simp) (fail)
    go_wp2_with fail
    refine bodyPost_ret (v := .tuple #[.agg #[.string f, .string k], .agg #[.string k, .string t], .bool true]) (by simp [results, Try.results84, go_sem, *]) rfl ⟨?_, (by repeat (first | with_reducible exact Below.refl _ _ | with_reducible assumption | with_reducible refine Below.drew ?_ | with_reducible refine below_drawn ?_ | with_reducible refine Below.alloc ?_ (by first | omega | (simp; done) | (simp; omega) | (simp at *; omega)) _ | with_reducible refine Below.setCell ?_ (by first | omega | (simp; done) | (simp; omega) | (simp at *; omega)) _ | with_reducible refine Below.trans ?_ (Below.mono (by assumption) (by first | omega | (simp; done) | (simp; omega) | (simp at *; omega)))))⟩
    simp [cutOk, leB, sel, *]
  all_goals (refine bodyPost_ret (v := .tuple #[.agg #[.string ⟨#[]⟩, .string ⟨#[]⟩], .agg #[.string ⟨#[]⟩, .string ⟨#[]⟩], .bool false]) (by simp [results, Try.results84, go_sem, *]) rfl ⟨?_, (by repeat (first | with_reducible exact Below.refl _ _ | with_reducible assumption | with_reducible refine Below.drew ?_ | with_reducible refine below_drawn ?_ | with_reducible refine Below.alloc ?_ (by first | omega | (simp; done) | (simp; omega) | (simp at *; omega)) _ | with_reducible refine Below.setCell ?_ (by first | omega | (simp; done) | (simp; omega) | (simp at *; omega)) _ | with_reducible refine Below.trans ?_ (Below.mono (by assumption) (by first | omega | (simp; done) | (simp; omega) | (simp at *; omega)))))⟩)
  · simp [cutOk, sel, *]
  · rcases ‹_ ∨ _› with h | h <;> simp [cutOk, leB, sel, h]
end Go.Proofs.Ytobnibdeimiinaa
