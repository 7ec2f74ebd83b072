/- Texts put together: W1, Jn, RAl. -/
import Derived.Test.YtobnibdeimiinaaBs
import Derived.Test.YtobnibdeimiinaaPn

/- Contracts of package span's functions and of the reference's: what each call gives back, and that of the old memory nothing turns. -/
namespace Go.Proofs.Ytobnibdeimiinaa
open Go.RowKit

set_option maxHeartbeats 1000000 in
theorem span_is (f t : ByteArray) (w : World) :
    Calls Try.prog 91 #[.agg #[.string f, .string t]] w fun e w' => e = .returned (.bool (isB f t)) ∧ Below w.heap.size w w' := by
  go_enter Try.func91, Try.ntmps91
  go_wp2
  all_goals (go_ret; refine ⟨?_, (by repeat (first | with_reducible exact Below.refl _ _ | with_reducible assumption | with_reducible refine Below.drew ?_ | with_reducible refine below_drawn ?_ | with_reducible refine Below.alloc ?_ (by first | omega | (simp; done) | (simp; omega) | (simp at *; omega)) _ | with_reducible refine Below.setCell ?_ (by first | omega | (simp; done) | (simp; omega) | (simp at *; omega)) _ | with_reducible refine Below.trans ?_ (Below.mono (by assumption) (by first | omega | (simp; done) | (simp; omega) | (simp at *; omega)))))⟩)
  all_goals (simp [isB, gtB, *]; try omega)

set_option maxHeartbeats 1000000 in
theorem span_in (f t k : ByteArray) (w : World) :
    Calls Try.prog 53 #[.agg #[.string f, .string t], .string k] w fun e w' => e = .returned (.bool (inB f t k)) ∧ Below w.heap.size w w' := by
  go_enter Try.func53, Try.ntmps53
  go_wp2_with fail
  (refine calls_name fun wa hwa => ?_; have wa_s0 : w.heap.size < wa.heap.size := (by rw [hwa]; first | omega | (simp; done) | (simp; omega)); have wa_c0 : wa.cell? ⟨w.heap.size, 0, none⟩ = some (.string f) := (by rw [hwa]; go_simp); have wa_c1 : wa.cell? ⟨w.heap.size, 1, none⟩ = some (.string t) := (by rw [hwa]; go_simp); have wa_b : Below w.heap.size w wa := (by rw [hwa]; exact (by repeat (first | with_reducible exact Below.refl _ _ | with_reducible assumption | with_reducible refine Below.drew ?_ | with_reducible refine below_drawn ?_ | with_reducible refine Below.alloc ?_ (by first | omega | (simp; done) | (simp; omega) | (simp at *; omega)) _ | with_reducible refine Below.setCell ?_ (by first | omega | (simp; done) | (simp; omega) | (simp at *; omega)) _ | with_reducible refine Below.trans ?_ (Below.mono (by assumption) (by first | omega | (simp; done) | (simp; omega) | (simp at *; omega)))))); clear hwa)
  refine (span_is _ _ _).mono ?_
  (rintro e w1 ⟨rfl, w1_h⟩; obtain ⟨w1_hc, w1_hf⟩ := bcell w1_h; have w1_z := w1_h.size; have w1_b := wa_b.trans (w1_h.mono (by have := wa_b.size; omega)); have w1_le := w1_b.size; clear w1_h)
  go_wp2_with fail
  all_goals (go_ret; refine ⟨?_, (by repeat (first | with_reducible exact Below.refl _ _ | with_reducible assumption | with_reducible refine Below.drew ?_ | with_reducible refine below_drawn ?_ | with_reducible refine Below.alloc ?_ (by first | omega | (simp; done) | (simp; omega) | (simp at *; omega)) _ | with_reducible refine Below.setCell ?_ (by first | omega | (simp; done) | (simp; omega) | (simp at *; omega)) _ | with_reducible refine Below.trans ?_ (Below.mono (by assumption) (by first | omega | (simp; done) | (simp; omega) | (simp at *; omega)))))⟩)
  all_goals (simp [inB, *]; try omega)

set_option maxHeartbeats 1000000 in
theorem span_cut (f t k : ByteArray) (w : World) :
    Calls Try.prog 75 #[.agg #[.string f, .string t], .string k] w fun e w' => e = .returned (.tuple #[.agg #[.string (sel (cutOk f t k) f), .string (sel (cutOk f t k) k)], .agg #[.string (sel (cutOk f t k) k), .string (sel (cutOk f t k) t)], .bool (cutOk f t k)]) ∧ Below w.heap.size w w' := by
  go_enter Try.func75, Try.ntmps75
  go_wp2_with fail
  (refine calls_name fun wa hwa => ?_; have wa_s0 : w.heap.size < wa.heap.size := (by rw [hwa]; first | omega | (simp; done) | (simp; omega)); have wa_s1 : w.heap.size + 1 < wa.heap.size := (by rw [hwa]; first | omega | (simp; done) | (simp; omega)); have wa_s2 : w.heap.size + 2 < wa.heap.size := (by rw [hwa]; first | omega | (simp; done) | (simp; omega)); have wa_c0 : wa.cell? ⟨w.heap.size, 0, none⟩ = some (.string f) := (by rw [hwa]; go_simp); have wa_c1 : wa.cell? ⟨w.heap.size, 1, none⟩ = some (.string t) := (by rw [hwa]; go_simp); have wa_c2 : wa.cell? ⟨w.heap.size + 1, 0, none⟩ = some (.string ⟨#[]⟩) := (by rw [hwa]; go_simp); have wa_f2 : wa.frozen? ⟨w.heap.size + 1, 0, none⟩ = false := (by rw [hwa]; go_simp); have wa_c3 : wa.cell? ⟨w.heap.size + 1, 1, none⟩ = some (.string ⟨#[]⟩) := (by rw [hwa]; go_simp); have wa_f3 : wa.frozen? ⟨w.heap.size + 1, 1, none⟩ = false := (by rw [hwa]; go_simp); have wa_c4 : wa.cell? ⟨w.heap.size + 2, 0, none⟩ = some (.string ⟨#[]⟩) := (by rw [hwa]; go_simp); have wa_f4 : wa.frozen? ⟨w.heap.size + 2, 0, none⟩ = false := (by rw [hwa]; go_simp); have wa_c5 : wa.cell? ⟨w.heap.size + 2, 1, none⟩ = some (.string ⟨#[]⟩) := (by rw [hwa]; go_simp); have wa_f5 : wa.frozen? ⟨w.heap.size + 2, 1, none⟩ = false := (by rw [hwa]; go_simp); have wa_b : Below w.heap.size w wa := (by rw [hwa]; exact (by repeat (first | with_reducible exact Below.refl _ _ | with_reducible assumption | with_reducible refine Below.drew ?_ | with_reducible refine below_drawn ?_ | with_reducible refine Below.alloc ?_ (by first | omega | (simp; done) | (simp; omega) | (simp at *; omega)) _ | with_reducible refine Below.setCell ?_ (by first | omega | (simp; done) | (simp; omega) | (simp at *; omega)) _ | with_reducible refine Below.trans ?_ (Below.mono (by assumption) (by first | omega | (simp; done) | (simp; omega) | (simp at *; omega)))))); clear hwa)
  refine (span_in _ _ _ _).mono ?_
  (rintro e w1 ⟨rfl, w1_h⟩; obtain ⟨w1_hc, w1_hf⟩ := bcell w1_h; have w1_z := w1_h.size; have w1_b := wa_b.trans (w1_h.mono (by have := wa_b.size; omega)); have w1_le := w1_b.size; have w1_s0 : w.heap.size < w1.heap.size := (by omega); have w1_s1 : w.heap.size + 1 < w1.heap.size := (by omega); have w1_s2 : w.heap.size + 2 < w1.heap.size := (by omega); clear w1_h)
  go_wp2_with fail
  rotate_left
  · go_region_held3 (fun W => W.cell? ⟨w.heap.size, 0, none⟩ = some (.string f) ∧ W.cell? ⟨w.heap.size, 1, none⟩ = some (.string t)) (go_simp) (fail)
    go_wp2_with fail
    refine bodyPost_ret (v := .tuple #[.agg #[.string f, .string k], .agg #[.string k, .string t], .bool true]) (by simp [results, Try.results75, go_sem, *]) rfl ⟨?_, (by repeat (first | with_reducible exact Below.refl _ _ | with_reducible assumption | with_reducible refine Below.drew ?_ | with_reducible refine below_drawn ?_ | with_reducible refine Below.alloc ?_ (by first | omega | (simp; done) | (simp; omega) | (simp at *; omega)) _ | with_reducible refine Below.setCell ?_ (by first | omega | (simp; done) | (simp; omega) | (simp at *; omega)) _ | with_reducible refine Below.trans ?_ (Below.mono (by assumption) (by first | omega | (simp; done) | (simp; omega) | (simp at *; omega)))))⟩
    simp [cutOk, leB, sel, *]
  all_goals (refine bodyPost_ret (v := .tuple #[.agg #[.string ⟨#[]⟩, .string ⟨#[]⟩], .agg #[.string ⟨#[]⟩, .string ⟨#[]⟩], .bool false]) (by simp [results, Try.results75, go_sem, *]) rfl ⟨?_, (by repeat (first | with_reducible exact Below.refl _ _ | with_reducible assumption | with_reducible refine Below.drew ?_ | with_reducible refine below_drawn ?_ | with_reducible refine Below.alloc ?_ (by first | omega | (simp; done) | (simp; omega) | (simp at *; omega)) _ | with_reducible refine Below.setCell ?_ (by first | omega | (simp; done) | (simp; omega) | (simp at *; omega)) _ | with_reducible refine Below.trans ?_ (Below.mono (by assumption) (by first | omega | (simp; done) | (simp; omega) | (simp at *; omega)))))⟩)
  · simp [cutOk, sel, *]
  · rcases ‹_ ∨ _› with h | h <;> simp [cutOk, leB, sel, h]
set_option maxHeartbeats 1000000 in
theorem satrapyref12_is (f t : ByteArray) (w : World) :
    Calls Try.prog 44 #[.agg #[.string f, .string t]] w fun e w' => e = .returned (.bool (isB f t)) ∧ Below w.heap.size w w' := by
  go_enter Try.func44, Try.ntmps44
  go_wp2
  all_goals (go_ret; refine ⟨?_, (by repeat (first | with_reducible exact Below.refl _ _ | with_reducible assumption | with_reducible refine Below.drew ?_ | with_reducible refine below_drawn ?_ | with_reducible refine Below.alloc ?_ (by first | omega | (simp; done) | (simp; omega) | (simp at *; omega)) _ | with_reducible refine Below.setCell ?_ (by first | omega | (simp; done) | (simp; omega) | (simp at *; omega)) _ | with_reducible refine Below.trans ?_ (Below.mono (by assumption) (by first | omega | (simp; done) | (simp; omega) | (simp at *; omega)))))⟩)
  all_goals (simp [isB, gtB, *]; try omega)

set_option maxHeartbeats 1000000 in
theorem satrapyref12_in (f t k : ByteArray) (w : World) :
    Calls Try.prog 18 #[.agg #[.string f, .string t], .string k] w fun e w' => e = .returned (.bool (inB f t k)) ∧ Below w.heap.size w w' := by
  go_enter Try.func18, Try.ntmps18
  go_wp2_with fail
  (refine calls_name fun wa hwa => ?_; have wa_s0 : w.heap.size < wa.heap.size := (by rw [hwa]; first | omega | (simp; done) | (simp; omega)); have wa_c0 : wa.cell? ⟨w.heap.size, 0, none⟩ = some (.string f) := (by rw [hwa]; go_simp); have wa_c1 : wa.cell? ⟨w.heap.size, 1, none⟩ = some (.string t) := (by rw [hwa]; go_simp); have wa_b : Below w.heap.size w wa := (by rw [hwa]; exact (by repeat (first | with_reducible exact Below.refl _ _ | with_reducible assumption | with_reducible refine Below.drew ?_ | with_reducible refine below_drawn ?_ | with_reducible refine Below.alloc ?_ (by first | omega | (simp; done) | (simp; omega) | (simp at *; omega)) _ | with_reducible refine Below.setCell ?_ (by first | omega | (simp; done) | (simp; omega) | (simp at *; omega)) _ | with_reducible refine Below.trans ?_ (Below.mono (by assumption) (by first | omega | (simp; done) | (simp; omega) | (simp at *; omega)))))); clear hwa)
  refine (satrapyref12_is _ _ _).mono ?_
  (rintro e w1 ⟨rfl, w1_h⟩; obtain ⟨w1_hc, w1_hf⟩ := bcell w1_h; have w1_z := w1_h.size; have w1_b := wa_b.trans (w1_h.mono (by have := wa_b.size; omega)); have w1_le := w1_b.size; clear w1_h)
  go_wp2_with fail
  all_goals (go_ret; refine ⟨?_, (by repeat (first | with_reducible exact Below.refl _ _ | with_reducible assumption | with_reducible refine Below.drew ?_ | with_reducible refine below_drawn ?_ | with_reducible refine Below.alloc ?_ (by first | omega | (simp; done) | (simp; omega) | (simp at *; omega)) _ | with_reducible refine Below.setCell ?_ (by first | omega | (simp; done) | (simp; omega) | (simp at *; omega)) _ | with_reducible refine Below.trans ?_ (Below.mono (by assumption) (by first | omega | (simp; done) | (simp; omega) | (simp at *; omega)))))⟩)
  all_goals (simp [inB, *]; try omega)

set_option maxHeartbeats 1000000 in
theorem satrapyref12_cut (f t k : ByteArray) (w : World) :
    Calls Try.prog 84 #[.agg #[.string f, .string t], .string k] w fun e w' => e = .returned (.tuple #[.agg #[.string (sel (cutOk f t k) f), .string (sel (cutOk f t k) k)], .agg #[.string (sel (cutOk f t k) k), .string (sel (cutOk f t k) t)], .bool (cutOk f t k)]) ∧ Below w.heap.size w w' := by
  go_enter Try.func84, Try.ntmps84
  go_wp2_with fail
  (refine calls_name fun wa hwa => ?_; have wa_s0 : w.heap.size < wa.heap.size := (by rw [hwa]; first | omega | (simp; done) | (simp; omega)); have wa_s1 : w.heap.size + 1 < wa.heap.size := (by rw [hwa]; first | omega | (simp; done) | (simp; omega)); have wa_s2 : w.heap.size + 2 < wa.heap.size := (by rw [hwa]; first | omega | (simp; done) | (simp; omega)); have wa_c0 : wa.cell? ⟨w.heap.size, 0, none⟩ = some (.string f) := (by rw [hwa]; go_simp); have wa_c1 : wa.cell? ⟨w.heap.size, 1, none⟩ = some (.string t) := (by rw [hwa]; go_simp); have wa_c2 : wa.cell? ⟨w.heap.size + 1, 0, none⟩ = some (.string ⟨#[]⟩) := (by rw [hwa]; go_simp); have wa_f2 : wa.frozen? ⟨w.heap.size + 1, 0, none⟩ = false := (by rw [hwa]; go_simp); have wa_c3 : wa.cell? ⟨w.heap.size + 1, 1, none⟩ = some (.string ⟨#[]⟩) := (by rw [hwa]; go_simp); have wa_f3 : wa.frozen? ⟨w.heap.size + 1, 1, none⟩ = false := (by rw [hwa]; go_simp); have wa_c4 : wa.cell? ⟨w.heap.size + 2, 0, none⟩ = some (.string ⟨#[]⟩) := (by rw [hwa]; go_simp); have wa_f4 : wa.frozen? ⟨w.heap.size + 2, 0, none⟩ = false := (by rw [hwa]; go_simp); have wa_c5 : wa.cell? ⟨w.heap.size + 2, 1, none⟩ = some (.string ⟨#[]⟩) := (by rw [hwa]; go_simp); have wa_f5 : wa.frozen? ⟨w.heap.size + 2, 1, none⟩ = false := (by rw [hwa]; go_simp); have wa_b : Below w.heap.size w wa := (by rw [hwa]; exact (by repeat (first | with_reducible exact Below.refl _ _ | with_reducible assumption | with_reducible refine Below.drew ?_ | with_reducible refine below_drawn ?_ | with_reducible refine Below.alloc ?_ (by first | omega | (simp; done) | (simp; omega) | (simp at *; omega)) _ | with_reducible refine Below.setCell ?_ (by first | omega | (simp; done) | (simp; omega) | (simp at *; omega)) _ | with_reducible refine Below.trans ?_ (Below.mono (by assumption) (by first | omega | (simp; done) | (simp; omega) | (simp at *; omega)))))); clear hwa)
  refine (satrapyref12_in _ _ _ _).mono ?_
  (rintro e w1 ⟨rfl, w1_h⟩; obtain ⟨w1_hc, w1_hf⟩ := bcell w1_h; have w1_z := w1_h.size; have w1_b := wa_b.trans (w1_h.mono (by have := wa_b.size; omega)); have w1_le := w1_b.size; have w1_s0 : w.heap.size < w1.heap.size := (by omega); have w1_s1 : w.heap.size + 1 < w1.heap.size := (by omega); have w1_s2 : w.heap.size + 2 < w1.heap.size := (by omega); clear w1_h)
  go_wp2_with fail
  rotate_left
  · go_region_held3 (fun W => W.cell? ⟨w.heap.size, 0, none⟩ = some (.string f) ∧ W.cell? ⟨w.heap.size, 1, none⟩ = some (.string t)) (go_simp) (fail)
    go_wp2_with fail
    refine bodyPost_ret (v := .tuple #[.agg #[.string f, .string k], .agg #[.string k, .string t], .bool true]) (by simp [results, Try.results84, go_sem, *]) rfl ⟨?_, (by repeat (first | with_reducible exact Below.refl _ _ | with_reducible assumption | with_reducible refine Below.drew ?_ | with_reducible refine below_drawn ?_ | with_reducible refine Below.alloc ?_ (by first | omega | (simp; done) | (simp; omega) | (simp at *; omega)) _ | with_reducible refine Below.setCell ?_ (by first | omega | (simp; done) | (simp; omega) | (simp at *; omega)) _ | with_reducible refine Below.trans ?_ (Below.mono (by assumption) (by first | omega | (simp; done) | (simp; omega) | (simp at *; omega)))))⟩
    simp [cutOk, leB, sel, *]
  all_goals (refine bodyPost_ret (v := .tuple #[.agg #[.string ⟨#[]⟩, .string ⟨#[]⟩], .agg #[.string ⟨#[]⟩, .string ⟨#[]⟩], .bool false]) (by simp [results, Try.results84, go_sem, *]) rfl ⟨?_, (by repeat (first | with_reducible exact Below.refl _ _ | with_reducible assumption | with_reducible refine Below.drew ?_ | with_reducible refine below_drawn ?_ | with_reducible refine Below.alloc ?_ (by first | omega | (simp; done) | (simp; omega) | (simp at *; omega)) _ | with_reducible refine Below.setCell ?_ (by first | omega | (simp; done) | (simp; omega) | (simp at *; omega)) _ | with_reducible refine Below.trans ?_ (Below.mono (by assumption) (by first | omega | (simp; done) | (simp; omega) | (simp at *; omega)))))⟩)
  · simp [cutOk, sel, *]
  · rcases ‹_ ∨ _› with h | h <;> simp [cutOk, leB, sel, h]
end Go.Proofs.Ytobnibdeimiinaa

/- Contracts of Join, the program's and the document's. -/
namespace Go.Proofs.Ytobnibdeimiinaa
open Go.RowKit
set_option maxHeartbeats 1000000 in
theorem span_join (f t f' t' : ByteArray) (w : World) :
    Calls Try.prog 80 #[.agg #[.string f, .string t], .agg #[.string f', .string t']] w fun e w' => e = .returned (.tuple #[.agg #[.string (sel (joinOk f t f' t') f), .string (sel (joinOk f t f' t') t')], .bool (joinOk f t f' t')]) ∧ Below w.heap.size w w' := by
  cases h1 : isB f t <;> have H1 := Lib.hid h1 <;> clear h1
  · go_enter Try.func80, Try.ntmps80
    go_wp2_with fail
    (refine calls_name fun wa hwa => ?_; have wa_s0 : w.heap.size < wa.heap.size := (by rw [hwa]; first | omega | (simp; done) | (simp; omega)); have wa_s1 : w.heap.size + 1 < wa.heap.size := (by rw [hwa]; first | omega | (simp; done) | (simp; omega)); have wa_s2 : w.heap.size + 2 < wa.heap.size := (by rw [hwa]; first | omega | (simp; done) | (simp; omega)); have wa_c0 : wa.cell? ⟨w.heap.size, 0, none⟩ = some (.string f) := (by rw [hwa]; go_simp); have wa_c1 : wa.cell? ⟨w.heap.size, 1, none⟩ = some (.string t) := (by rw [hwa]; go_simp); have wa_c2 : wa.cell? ⟨w.heap.size + 1, 0, none⟩ = some (.string f') := (by rw [hwa]; go_simp); have wa_c3 : wa.cell? ⟨w.heap.size + 1, 1, none⟩ = some (.string t') := (by rw [hwa]; go_simp); have wa_c4 : wa.cell? ⟨w.heap.size + 2, 0, none⟩ = some (.string ⟨#[]⟩) := (by rw [hwa]; go_simp); have wa_f4 : wa.frozen? ⟨w.heap.size + 2, 0, none⟩ = false := (by rw [hwa]; go_simp); have wa_c5 : wa.cell? ⟨w.heap.size + 2, 1, none⟩ = some (.string ⟨#[]⟩) := (by rw [hwa]; go_simp); have wa_f5 : wa.frozen? ⟨w.heap.size + 2, 1, none⟩ = false := (by rw [hwa]; go_simp); have wa_b : Below w.heap.size w wa := (by rw [hwa]; exact (by repeat (first | with_reducible exact Below.refl _ _ | with_reducible assumption | with_reducible refine Below.drew ?_ | with_reducible refine below_drawn ?_ | with_reducible refine Below.alloc ?_ (by first | omega | (simp; done) | (simp; omega) | (simp at *; omega)) _ | with_reducible refine Below.setCell ?_ (by first | omega | (simp; done) | (simp; omega) | (simp at *; omega)) _ | with_reducible refine Below.trans ?_ (Below.mono (by assumption) (by first | omega | (simp; done) | (simp; omega) | (simp at *; omega)))))); clear hwa)
    refine (span_is _ _ _).mono ?_
    rw [H1.out]
    (rintro e w1 ⟨rfl, w1_h⟩; obtain ⟨w1_hc, w1_hf⟩ := bcell w1_h; have w1_z := w1_h.size; have w1_b := wa_b.trans (w1_h.mono (by have := wa_b.size; omega)); have w1_le := w1_b.size; have w1_s0 : w.heap.size < w1.heap.size := (by omega); have w1_s1 : w.heap.size + 1 < w1.heap.size := (by omega); have w1_s2 : w.heap.size + 2 < w1.heap.size := (by omega); clear w1_h)
    go_wp2_with fail
    refine bodyPost_ret (v := .tuple #[.agg #[.string ⟨#[]⟩, .string ⟨#[]⟩], .bool false]) (by simp [results, Try.results80, go_sem, *]) rfl ⟨?_, (by repeat (first | with_reducible exact Below.refl _ _ | with_reducible assumption | with_reducible refine Below.drew ?_ | with_reducible refine below_drawn ?_ | with_reducible refine Below.alloc ?_ (by first | omega | (simp; done) | (simp; omega) | (simp at *; omega)) _ | with_reducible refine Below.setCell ?_ (by first | omega | (simp; done) | (simp; omega) | (simp at *; omega)) _ | with_reducible refine Below.trans ?_ (Below.mono (by assumption) (by first | omega | (simp; done) | (simp; omega) | (simp at *; omega)))))⟩
    simp [joinOk, sel, H1.out]
  · cases h2 : isB f' t' <;> have H2 := Lib.hid h2 <;> clear h2
    · go_enter Try.func80, Try.ntmps80
      go_wp2_with fail
      (refine calls_name fun wa hwa => ?_; have wa_s0 : w.heap.size < wa.heap.size := (by rw [hwa]; first | omega | (simp; done) | (simp; omega)); have wa_s1 : w.heap.size + 1 < wa.heap.size := (by rw [hwa]; first | omega | (simp; done) | (simp; omega)); have wa_s2 : w.heap.size + 2 < wa.heap.size := (by rw [hwa]; first | omega | (simp; done) | (simp; omega)); have wa_c0 : wa.cell? ⟨w.heap.size, 0, none⟩ = some (.string f) := (by rw [hwa]; go_simp); have wa_c1 : wa.cell? ⟨w.heap.size, 1, none⟩ = some (.string t) := (by rw [hwa]; go_simp); have wa_c2 : wa.cell? ⟨w.heap.size + 1, 0, none⟩ = some (.string f') := (by rw [hwa]; go_simp); have wa_c3 : wa.cell? ⟨w.heap.size + 1, 1, none⟩ = some (.string t') := (by rw [hwa]; go_simp); have wa_c4 : wa.cell? ⟨w.heap.size + 2, 0, none⟩ = some (.string ⟨#[]⟩) := (by rw [hwa]; go_simp); have wa_f4 : wa.frozen? ⟨w.heap.size + 2, 0, none⟩ = false := (by rw [hwa]; go_simp); have wa_c5 : wa.cell? ⟨w.heap.size + 2, 1, none⟩ = some (.string ⟨#[]⟩) := (by rw [hwa]; go_simp); have wa_f5 : wa.frozen? ⟨w.heap.size + 2, 1, none⟩ = false := (by rw [hwa]; go_simp); have wa_b : Below w.heap.size w wa := (by rw [hwa]; exact (by repeat (first | with_reducible exact Below.refl _ _ | with_reducible assumption | with_reducible refine Below.drew ?_ | with_reducible refine below_drawn ?_ | with_reducible refine Below.alloc ?_ (by first | omega | (simp; done) | (simp; omega) | (simp at *; omega)) _ | with_reducible refine Below.setCell ?_ (by first | omega | (simp; done) | (simp; omega) | (simp at *; omega)) _ | with_reducible refine Below.trans ?_ (Below.mono (by assumption) (by first | omega | (simp; done) | (simp; omega) | (simp at *; omega)))))); clear hwa)
      refine (span_is _ _ _).mono ?_
      rw [H1.out]
      (rintro e w1 ⟨rfl, w1_h⟩; obtain ⟨w1_hc, w1_hf⟩ := bcell w1_h; have w1_z := w1_h.size; have w1_b := wa_b.trans (w1_h.mono (by have := wa_b.size; omega)); have w1_le := w1_b.size; have w1_s0 : w.heap.size < w1.heap.size := (by omega); have w1_s1 : w.heap.size + 1 < w1.heap.size := (by omega); have w1_s2 : w.heap.size + 2 < w1.heap.size := (by omega); clear w1_h)
      go_wp2_with fail
      (refine calls_name fun wb hwb => ?_; have wb_s0 : w.heap.size < wb.heap.size := (by rw [hwb]; first | omega | (simp; done) | (simp; omega)); have wb_s1 : w.heap.size + 1 < wb.heap.size := (by rw [hwb]; first | omega | (simp; done) | (simp; omega)); have wb_s2 : w.heap.size + 2 < wb.heap.size := (by rw [hwb]; first | omega | (simp; done) | (simp; omega)); have wb_c0 : wb.cell? ⟨w.heap.size, 0, none⟩ = some (.string f) := (by rw [hwb]; go_simp); have wb_c1 : wb.cell? ⟨w.heap.size, 1, none⟩ = some (.string t) := (by rw [hwb]; go_simp); have wb_c2 : wb.cell? ⟨w.heap.size + 1, 0, none⟩ = some (.string f') := (by rw [hwb]; go_simp); have wb_c3 : wb.cell? ⟨w.heap.size + 1, 1, none⟩ = some (.string t') := (by rw [hwb]; go_simp); have wb_c4 : wb.cell? ⟨w.heap.size + 2, 0, none⟩ = some (.string ⟨#[]⟩) := (by rw [hwb]; go_simp); have wb_f4 : wb.frozen? ⟨w.heap.size + 2, 0, none⟩ = false := (by rw [hwb]; go_simp); have wb_c5 : wb.cell? ⟨w.heap.size + 2, 1, none⟩ = some (.string ⟨#[]⟩) := (by rw [hwb]; go_simp); have wb_f5 : wb.frozen? ⟨w.heap.size + 2, 1, none⟩ = false := (by rw [hwb]; go_simp); have wb_b : Below w.heap.size w wb := (by rw [hwb]; exact (by repeat (first | with_reducible exact Below.refl _ _ | with_reducible assumption | with_reducible refine Below.drew ?_ | with_reducible refine below_drawn ?_ | with_reducible refine Below.alloc ?_ (by first | omega | (simp; done) | (simp; omega) | (simp at *; omega)) _ | with_reducible refine Below.setCell ?_ (by first | omega | (simp; done) | (simp; omega) | (simp at *; omega)) _ | with_reducible refine Below.trans ?_ (Below.mono (by assumption) (by first | omega | (simp; done) | (simp; omega) | (simp at *; omega)))))); clear hwb)
      refine (span_is _ _ _).mono ?_
      rw [H2.out]
      (rintro e w2 ⟨rfl, w2_h⟩; obtain ⟨w2_hc, w2_hf⟩ := bcell w2_h; have w2_z := w2_h.size; have w2_b := wb_b.trans (w2_h.mono (by have := wb_b.size; omega)); have w2_le := w2_b.size; have w2_s0 : w.heap.size < w2.heap.size := (by omega); have w2_s1 : w.heap.size + 1 < w2.heap.size := (by omega); have w2_s2 : w.heap.size + 2 < w2.heap.size := (by omega); clear w2_h)
      go_wp2_with fail
      refine bodyPost_ret (v := .tuple #[.agg #[.string ⟨#[]⟩, .string ⟨#[]⟩], .bool false]) (by simp [results, Try.results80, go_sem, *]) rfl ⟨?_, (by repeat (first | with_reducible exact Below.refl _ _ | with_reducible assumption | with_reducible refine Below.drew ?_ | with_reducible refine below_drawn ?_ | with_reducible refine Below.alloc ?_ (by first | omega | (simp; done) | (simp; omega) | (simp at *; omega)) _ | with_reducible refine Below.setCell ?_ (by first | omega | (simp; done) | (simp; omega) | (simp at *; omega)) _ | with_reducible refine Below.trans ?_ (Below.mono (by assumption) (by first | omega | (simp; done) | (simp; omega) | (simp at *; omega)))))⟩
      simp [joinOk, sel, H2.out]
    · go_enter Try.func80, Try.ntmps80
      go_wp2_with fail
      (refine calls_name fun wa hwa => ?_; have wa_s0 : w.heap.size < wa.heap.size := (by rw [hwa]; first | omega | (simp; done) | (simp; omega)); have wa_s1 : w.heap.size + 1 < wa.heap.size := (by rw [hwa]; first | omega | (simp; done) | (simp; omega)); have wa_s2 : w.heap.size + 2 < wa.heap.size := (by rw [hwa]; first | omega | (simp; done) | (simp; omega)); have wa_c0 : wa.cell? ⟨w.heap.size, 0, none⟩ = some (.string f) := (by rw [hwa]; go_simp); have wa_c1 : wa.cell? ⟨w.heap.size, 1, none⟩ = some (.string t) := (by rw [hwa]; go_simp); have wa_c2 : wa.cell? ⟨w.heap.size + 1, 0, none⟩ = some (.string f') := (by rw [hwa]; go_simp); have wa_c3 : wa.cell? ⟨w.heap.size + 1, 1, none⟩ = some (.string t') := (by rw [hwa]; go_simp); have wa_c4 : wa.cell? ⟨w.heap.size + 2, 0, none⟩ = some (.string ⟨#[]⟩) := (by rw [hwa]; go_simp); have wa_f4 : wa.frozen? ⟨w.heap.size + 2, 0, none⟩ = false := (by rw [hwa]; go_simp); have wa_c5 : wa.cell? ⟨w.heap.size + 2, 1, none⟩ = some (.string ⟨#[]⟩) := (by rw [hwa]; go_simp); have wa_f5 : wa.frozen? ⟨w.heap.size + 2, 1, none⟩ = false := (by rw [hwa]; go_simp); have wa_b : Below w.heap.size w wa := (by rw [hwa]; exact (by repeat (first | with_reducible exact Below.refl _ _ | with_reducible assumption | with_reducible refine Below.drew ?_ | with_reducible refine below_drawn ?_ | with_reducible refine Below.alloc ?_ (by first | omega | (simp; done) | (simp; omega) | (simp at *; omega)) _ | with_reducible refine Below.setCell ?_ (by first | omega | (simp; done) | (simp; omega) | (simp at *; omega)) _ | with_reducible refine Below.trans ?_ (Below.mono (by assumption) (by first | omega | (simp; done) | (simp; omega) | (simp at *; omega)))))); clear hwa)
      refine (span_is _ _ _).mono ?_
      rw [H1.out]
      (rintro e w1 ⟨rfl, w1_h⟩; obtain ⟨w1_hc, w1_hf⟩ := bcell w1_h; have w1_z := w1_h.size; have w1_b := wa_b.trans (w1_h.mono (by have := wa_b.size; omega)); have w1_le := w1_b.size; have w1_s0 : w.heap.size < w1.heap.size := (by omega); have w1_s1 : w.heap.size + 1 < w1.heap.size := (by omega); have w1_s2 : w.heap.size + 2 < w1.heap.size := (by omega); clear w1_h)
      go_wp2_with fail
      (refine calls_name fun wb hwb => ?_; have wb_s0 : w.heap.size < wb.heap.size := (by rw [hwb]; first | omega | (simp; done) | (simp; omega)); have wb_s1 : w.heap.size + 1 < wb.heap.size := (by rw [hwb]; first | omega | (simp; done) | (simp; omega)); have wb_s2 : w.heap.size + 2 < wb.heap.size := (by rw [hwb]; first | omega | (simp; done) | (simp; omega)); have wb_c0 : wb.cell? ⟨w.heap.size, 0, none⟩ = some (.string f) := (by rw [hwb]; go_simp); have wb_c1 : wb.cell? ⟨w.heap.size, 1, none⟩ = some (.string t) := (by rw [hwb]; go_simp); have wb_c2 : wb.cell? ⟨w.heap.size + 1, 0, none⟩ = some (.string f') := (by rw [hwb]; go_simp); have wb_c3 : wb.cell? ⟨w.heap.size + 1, 1, none⟩ = some (.string t') := (by rw [hwb]; go_simp); have wb_c4 : wb.cell? ⟨w.heap.size + 2, 0, none⟩ = some (.string ⟨#[]⟩) := (by rw [hwb]; go_simp); have wb_f4 : wb.frozen? ⟨w.heap.size + 2, 0, none⟩ = false := (by rw [hwb]; go_simp); have wb_c5 : wb.cell? ⟨w.heap.size + 2, 1, none⟩ = some (.string ⟨#[]⟩) := (by rw [hwb]; go_simp); have wb_f5 : wb.frozen? ⟨w.heap.size + 2, 1, none⟩ = false := (by rw [hwb]; go_simp); have wb_b : Below w.heap.size w wb := (by rw [hwb]; exact (by repeat (first | with_reducible exact Below.refl _ _ | with_reducible assumption | with_reducible refine Below.drew ?_ | with_reducible refine below_drawn ?_ | with_reducible refine Below.alloc ?_ (by first | omega | (simp; done) | (simp; omega) | (simp at *; omega)) _ | with_reducible refine Below.setCell ?_ (by first | omega | (simp; done) | (simp; omega) | (simp at *; omega)) _ | with_reducible refine Below.trans ?_ (Below.mono (by assumption) (by first | omega | (simp; done) | (simp; omega) | (simp at *; omega)))))); clear hwb)
      refine (span_is _ _ _).mono ?_
      rw [H2.out]
      (rintro e w2 ⟨rfl, w2_h⟩; obtain ⟨w2_hc, w2_hf⟩ := bcell w2_h; have w2_z := w2_h.size; have w2_b := wb_b.trans (w2_h.mono (by have := wb_b.size; omega)); have w2_le := w2_b.size; have w2_s0 : w.heap.size < w2.heap.size := (by omega); have w2_s1 : w.heap.size + 1 < w2.heap.size := (by omega); have w2_s2 : w.heap.size + 2 < w2.heap.size := (by omega); clear w2_h)
      go_wp2_with fail
      rotate_left 2
      · refine bodyPost_ret (v := .tuple #[.agg #[.string f, .string t'], .bool true]) (by simp [results, Try.results80, go_sem, *]) rfl ⟨?_, (by repeat (first | with_reducible exact Below.refl _ _ | with_reducible assumption | with_reducible refine Below.drew ?_ | with_reducible refine below_drawn ?_ | with_reducible refine Below.alloc ?_ (by first | omega | (simp; done) | (simp; omega) | (simp at *; omega)) _ | with_reducible refine Below.setCell ?_ (by first | omega | (simp; done) | (simp; omega) | (simp at *; omega)) _ | with_reducible refine Below.trans ?_ (Below.mono (by assumption) (by first | omega | (simp; done) | (simp; omega) | (simp at *; omega)))))⟩
        simp_all [joinOk, sel, H1.out, H2.out]
      all_goals refine bodyPost_ret (v := .tuple #[.agg #[.string ⟨#[]⟩, .string ⟨#[]⟩], .bool false]) (by simp [results, Try.results80, go_sem, *]) rfl ⟨?_, (by repeat (first | with_reducible exact Below.refl _ _ | with_reducible assumption | with_reducible refine Below.drew ?_ | with_reducible refine below_drawn ?_ | with_reducible refine Below.alloc ?_ (by first | omega | (simp; done) | (simp; omega) | (simp at *; omega)) _ | with_reducible refine Below.setCell ?_ (by first | omega | (simp; done) | (simp; omega) | (simp at *; omega)) _ | with_reducible refine Below.trans ?_ (Below.mono (by assumption) (by first | omega | (simp; done) | (simp; omega) | (simp at *; omega)))))⟩
      · simp_all [joinOk, sel]
      · simp_all [joinOk, sel]
set_option maxHeartbeats 1000000 in
theorem satrapyref12_join (f t f' t' : ByteArray) (w : World) :
    Calls Try.prog 106 #[.agg #[.string f, .string t], .agg #[.string f', .string t']] w fun e w' => e = .returned (.tuple #[.agg #[.string (sel (joinOk f t f' t') f), .string (sel (joinOk f t f' t') t')], .bool (joinOk f t f' t')]) ∧ Below w.heap.size w w' := by
  cases h1 : isB f t <;> have H1 := Lib.hid h1 <;> clear h1
  · go_enter Try.func106, Try.ntmps106
    go_wp2_with fail
    (refine calls_name fun wa hwa => ?_; have wa_s0 : w.heap.size < wa.heap.size := (by rw [hwa]; first | omega | (simp; done) | (simp; omega)); have wa_s1 : w.heap.size + 1 < wa.heap.size := (by rw [hwa]; first | omega | (simp; done) | (simp; omega)); have wa_s2 : w.heap.size + 2 < wa.heap.size := (by rw [hwa]; first | omega | (simp; done) | (simp; omega)); have wa_c0 : wa.cell? ⟨w.heap.size, 0, none⟩ = some (.string f) := (by rw [hwa]; go_simp); have wa_c1 : wa.cell? ⟨w.heap.size, 1, none⟩ = some (.string t) := (by rw [hwa]; go_simp); have wa_c2 : wa.cell? ⟨w.heap.size + 1, 0, none⟩ = some (.string f') := (by rw [hwa]; go_simp); have wa_c3 : wa.cell? ⟨w.heap.size + 1, 1, none⟩ = some (.string t') := (by rw [hwa]; go_simp); have wa_c4 : wa.cell? ⟨w.heap.size + 2, 0, none⟩ = some (.string ⟨#[]⟩) := (by rw [hwa]; go_simp); have wa_f4 : wa.frozen? ⟨w.heap.size + 2, 0, none⟩ = false := (by rw [hwa]; go_simp); have wa_c5 : wa.cell? ⟨w.heap.size + 2, 1, none⟩ = some (.string ⟨#[]⟩) := (by rw [hwa]; go_simp); have wa_f5 : wa.frozen? ⟨w.heap.size + 2, 1, none⟩ = false := (by rw [hwa]; go_simp); have wa_b : Below w.heap.size w wa := (by rw [hwa]; exact (by repeat (first | with_reducible exact Below.refl _ _ | with_reducible assumption | with_reducible refine Below.drew ?_ | with_reducible refine below_drawn ?_ | with_reducible refine Below.alloc ?_ (by first | omega | (simp; done) | (simp; omega) | (simp at *; omega)) _ | with_reducible refine Below.setCell ?_ (by first | omega | (simp; done) | (simp; omega) | (simp at *; omega)) _ | with_reducible refine Below.trans ?_ (Below.mono (by assumption) (by first | omega | (simp; done) | (simp; omega) | (simp at *; omega)))))); clear hwa)
    refine (satrapyref12_is _ _ _).mono ?_
    rw [H1.out]
    (rintro e w1 ⟨rfl, w1_h⟩; obtain ⟨w1_hc, w1_hf⟩ := bcell w1_h; have w1_z := w1_h.size; have w1_b := wa_b.trans (w1_h.mono (by have := wa_b.size; omega)); have w1_le := w1_b.size; have w1_s0 : w.heap.size < w1.heap.size := (by omega); have w1_s1 : w.heap.size + 1 < w1.heap.size := (by omega); have w1_s2 : w.heap.size + 2 < w1.heap.size := (by omega); clear w1_h)
    go_wp2_with fail
    refine bodyPost_ret (v := .tuple #[.agg #[.string ⟨#[]⟩, .string ⟨#[]⟩], .bool false]) (by simp [results, Try.results106, go_sem, *]) rfl ⟨?_, (by repeat (first | with_reducible exact Below.refl _ _ | with_reducible assumption | with_reducible refine Below.drew ?_ | with_reducible refine below_drawn ?_ | with_reducible refine Below.alloc ?_ (by first | omega | (simp; done) | (simp; omega) | (simp at *; omega)) _ | with_reducible refine Below.setCell ?_ (by first | omega | (simp; done) | (simp; omega) | (simp at *; omega)) _ | with_reducible refine Below.trans ?_ (Below.mono (by assumption) (by first | omega | (simp; done) | (simp; omega) | (simp at *; omega)))))⟩
    simp [joinOk, sel, H1.out]
  · cases h2 : isB f' t' <;> have H2 := Lib.hid h2 <;> clear h2
    · go_enter Try.func106, Try.ntmps106
      go_wp2_with fail
      (refine calls_name fun wa hwa => ?_; have wa_s0 : w.heap.size < wa.heap.size := (by rw [hwa]; first | omega | (simp; done) | (simp; omega)); have wa_s1 : w.heap.size + 1 < wa.heap.size := (by rw [hwa]; first | omega | (simp; done) | (simp; omega)); have wa_s2 : w.heap.size + 2 < wa.heap.size := (by rw [hwa]; first | omega | (simp; done) | (simp; omega)); have wa_c0 : wa.cell? ⟨w.heap.size, 0, none⟩ = some (.string f) := (by rw [hwa]; go_simp); have wa_c1 : wa.cell? ⟨w.heap.size, 1, none⟩ = some (.string t) := (by rw [hwa]; go_simp); have wa_c2 : wa.cell? ⟨w.heap.size + 1, 0, none⟩ = some (.string f') := (by rw [hwa]; go_simp); have wa_c3 : wa.cell? ⟨w.heap.size + 1, 1, none⟩ = some (.string t') := (by rw [hwa]; go_simp); have wa_c4 : wa.cell? ⟨w.heap.size + 2, 0, none⟩ = some (.string ⟨#[]⟩) := (by rw [hwa]; go_simp); have wa_f4 : wa.frozen? ⟨w.heap.size + 2, 0, none⟩ = false := (by rw [hwa]; go_simp); have wa_c5 : wa.cell? ⟨w.heap.size + 2, 1, none⟩ = some (.string ⟨#[]⟩) := (by rw [hwa]; go_simp); have wa_f5 : wa.frozen? ⟨w.heap.size + 2, 1, none⟩ = false := (by rw [hwa]; go_simp); have wa_b : Below w.heap.size w wa := (by rw [hwa]; exact (by repeat (first | with_reducible exact Below.refl _ _ | with_reducible assumption | with_reducible refine Below.drew ?_ | with_reducible refine below_drawn ?_ | with_reducible refine Below.alloc ?_ (by first | omega | (simp; done) | (simp; omega) | (simp at *; omega)) _ | with_reducible refine Below.setCell ?_ (by first | omega | (simp; done) | (simp; omega) | (simp at *; omega)) _ | with_reducible refine Below.trans ?_ (Below.mono (by assumption) (by first | omega | (simp; done) | (simp; omega) | (simp at *; omega)))))); clear hwa)
      refine (satrapyref12_is _ _ _).mono ?_
      rw [H1.out]
      (rintro e w1 ⟨rfl, w1_h⟩; obtain ⟨w1_hc, w1_hf⟩ := bcell w1_h; have w1_z := w1_h.size; have w1_b := wa_b.trans (w1_h.mono (by have := wa_b.size; omega)); have w1_le := w1_b.size; have w1_s0 : w.heap.size < w1.heap.size := (by omega); have w1_s1 : w.heap.size + 1 < w1.heap.size := (by omega); have w1_s2 : w.heap.size + 2 < w1.heap.size := (by omega); clear w1_h)
      go_wp2_with fail
      (refine calls_name fun wb hwb => ?_; have wb_s0 : w.heap.size < wb.heap.size := (by rw [hwb]; first | omega | (simp; done) | (simp; omega)); have wb_s1 : w.heap.size + 1 < wb.heap.size := (by rw [hwb]; first | omega | (simp; done) | (simp; omega)); have wb_s2 : w.heap.size + 2 < wb.heap.size := (by rw [hwb]; first | omega | (simp; done) | (simp; omega)); have wb_c0 : wb.cell? ⟨w.heap.size, 0, none⟩ = some (.string f) := (by rw [hwb]; go_simp); have wb_c1 : wb.cell? ⟨w.heap.size, 1, none⟩ = some (.string t) := (by rw [hwb]; go_simp); have wb_c2 : wb.cell? ⟨w.heap.size + 1, 0, none⟩ = some (.string f') := (by rw [hwb]; go_simp); have wb_c3 : wb.cell? ⟨w.heap.size + 1, 1, none⟩ = some (.string t') := (by rw [hwb]; go_simp); have wb_c4 : wb.cell? ⟨w.heap.size + 2, 0, none⟩ = some (.string ⟨#[]⟩) := (by rw [hwb]; go_simp); have wb_f4 : wb.frozen? ⟨w.heap.size + 2, 0, none⟩ = false := (by rw [hwb]; go_simp); have wb_c5 : wb.cell? ⟨w.heap.size + 2, 1, none⟩ = some (.string ⟨#[]⟩) := (by rw [hwb]; go_simp); have wb_f5 : wb.frozen? ⟨w.heap.size + 2, 1, none⟩ = false := (by rw [hwb]; go_simp); have wb_b : Below w.heap.size w wb := (by rw [hwb]; exact (by repeat (first | with_reducible exact Below.refl _ _ | with_reducible assumption | with_reducible refine Below.drew ?_ | with_reducible refine below_drawn ?_ | with_reducible refine Below.alloc ?_ (by first | omega | (simp; done) | (simp; omega) | (simp at *; omega)) _ | with_reducible refine Below.setCell ?_ (by first | omega | (simp; done) | (simp; omega) | (simp at *; omega)) _ | with_reducible refine Below.trans ?_ (Below.mono (by assumption) (by first | omega | (simp; done) | (simp; omega) | (simp at *; omega)))))); clear hwb)
      refine (satrapyref12_is _ _ _).mono ?_
      rw [H2.out]
      (rintro e w2 ⟨rfl, w2_h⟩; obtain ⟨w2_hc, w2_hf⟩ := bcell w2_h; have w2_z := w2_h.size; have w2_b := wb_b.trans (w2_h.mono (by have := wb_b.size; omega)); have w2_le := w2_b.size; have w2_s0 : w.heap.size < w2.heap.size := (by omega); have w2_s1 : w.heap.size + 1 < w2.heap.size := (by omega); have w2_s2 : w.heap.size + 2 < w2.heap.size := (by omega); clear w2_h)
      go_wp2_with fail
      refine bodyPost_ret (v := .tuple #[.agg #[.string ⟨#[]⟩, .string ⟨#[]⟩], .bool false]) (by simp [results, Try.results106, go_sem, *]) rfl ⟨?_, (by repeat (first | with_reducible exact Below.refl _ _ | with_reducible assumption | with_reducible refine Below.drew ?_ | with_reducible refine below_drawn ?_ | with_reducible refine Below.alloc ?_ (by first | omega | (simp; done) | (simp; omega) | (simp at *; omega)) _ | with_reducible refine Below.setCell ?_ (by first | omega | (simp; done) | (simp; omega) | (simp at *; omega)) _ | with_reducible refine Below.trans ?_ (Below.mono (by assumption) (by first | omega | (simp; done) | (simp; omega) | (simp at *; omega)))))⟩
      simp [joinOk, sel, H2.out]
    · go_enter Try.func106, Try.ntmps106
      go_wp2_with fail
      (refine calls_name fun wa hwa => ?_; have wa_s0 : w.heap.size < wa.heap.size := (by rw [hwa]; first | omega | (simp; done) | (simp; omega)); have wa_s1 : w.heap.size + 1 < wa.heap.size := (by rw [hwa]; first | omega | (simp; done) | (simp; omega)); have wa_s2 : w.heap.size + 2 < wa.heap.size := (by rw [hwa]; first | omega | (simp; done) | (simp; omega)); have wa_c0 : wa.cell? ⟨w.heap.size, 0, none⟩ = some (.string f) := (by rw [hwa]; go_simp); have wa_c1 : wa.cell? ⟨w.heap.size, 1, none⟩ = some (.string t) := (by rw [hwa]; go_simp); have wa_c2 : wa.cell? ⟨w.heap.size + 1, 0, none⟩ = some (.string f') := (by rw [hwa]; go_simp); have wa_c3 : wa.cell? ⟨w.heap.size + 1, 1, none⟩ = some (.string t') := (by rw [hwa]; go_simp); have wa_c4 : wa.cell? ⟨w.heap.size + 2, 0, none⟩ = some (.string ⟨#[]⟩) := (by rw [hwa]; go_simp); have wa_f4 : wa.frozen? ⟨w.heap.size + 2, 0, none⟩ = false := (by rw [hwa]; go_simp); have wa_c5 : wa.cell? ⟨w.heap.size + 2, 1, none⟩ = some (.string ⟨#[]⟩) := (by rw [hwa]; go_simp); have wa_f5 : wa.frozen? ⟨w.heap.size + 2, 1, none⟩ = false := (by rw [hwa]; go_simp); have wa_b : Below w.heap.size w wa := (by rw [hwa]; exact (by repeat (first | with_reducible exact Below.refl _ _ | with_reducible assumption | with_reducible refine Below.drew ?_ | with_reducible refine below_drawn ?_ | with_reducible refine Below.alloc ?_ (by first | omega | (simp; done) | (simp; omega) | (simp at *; omega)) _ | with_reducible refine Below.setCell ?_ (by first | omega | (simp; done) | (simp; omega) | (simp at *; omega)) _ | with_reducible refine Below.trans ?_ (Below.mono (by assumption) (by first | omega | (simp; done) | (simp; omega) | (simp at *; omega)))))); clear hwa)
      refine (satrapyref12_is _ _ _).mono ?_
      rw [H1.out]
      (rintro e w1 ⟨rfl, w1_h⟩; obtain ⟨w1_hc, w1_hf⟩ := bcell w1_h; have w1_z := w1_h.size; have w1_b := wa_b.trans (w1_h.mono (by have := wa_b.size; omega)); have w1_le := w1_b.size; have w1_s0 : w.heap.size < w1.heap.size := (by omega); have w1_s1 : w.heap.size + 1 < w1.heap.size := (by omega); have w1_s2 : w.heap.size + 2 < w1.heap.size := (by omega); clear w1_h)
      go_wp2_with fail
      (refine calls_name fun wb hwb => ?_; have wb_s0 : w.heap.size < wb.heap.size := (by rw [hwb]; first | omega | (simp; done) | (simp; omega)); have wb_s1 : w.heap.size + 1 < wb.heap.size := (by rw [hwb]; first | omega | (simp; done) | (simp; omega)); have wb_s2 : w.heap.size + 2 < wb.heap.size := (by rw [hwb]; first | omega | (simp; done) | (simp; omega)); have wb_c0 : wb.cell? ⟨w.heap.size, 0, none⟩ = some (.string f) := (by rw [hwb]; go_simp); have wb_c1 : wb.cell? ⟨w.heap.size, 1, none⟩ = some (.string t) := (by rw [hwb]; go_simp); have wb_c2 : wb.cell? ⟨w.heap.size + 1, 0, none⟩ = some (.string f') := (by rw [hwb]; go_simp); have wb_c3 : wb.cell? ⟨w.heap.size + 1, 1, none⟩ = some (.string t') := (by rw [hwb]; go_simp); have wb_c4 : wb.cell? ⟨w.heap.size + 2, 0, none⟩ = some (.string ⟨#[]⟩) := (by rw [hwb]; go_simp); have wb_f4 : wb.frozen? ⟨w.heap.size + 2, 0, none⟩ = false := (by rw [hwb]; go_simp); have wb_c5 : wb.cell? ⟨w.heap.size + 2, 1, none⟩ = some (.string ⟨#[]⟩) := (by rw [hwb]; go_simp); have wb_f5 : wb.frozen? ⟨w.heap.size + 2, 1, none⟩ = false := (by rw [hwb]; go_simp); have wb_b : Below w.heap.size w wb := (by rw [hwb]; exact (by repeat (first | with_reducible exact Below.refl _ _ | with_reducible assumption | with_reducible refine Below.drew ?_ | with_reducible refine below_drawn ?_ | with_reducible refine Below.alloc ?_ (by first | omega | (simp; done) | (simp; omega) | (simp at *; omega)) _ | with_reducible refine Below.setCell ?_ (by first | omega | (simp; done) | (simp; omega) | (simp at *; omega)) _ | with_reducible refine Below.trans ?_ (Below.mono (by assumption) (by first | omega | (simp; done) | (simp; omega) | (simp at *; omega)))))); clear hwb)
      refine (satrapyref12_is _ _ _).mono ?_
      rw [H2.out]
      (rintro e w2 ⟨rfl, w2_h⟩; obtain ⟨w2_hc, w2_hf⟩ := bcell w2_h; have w2_z := w2_h.size; have w2_b := wb_b.trans (w2_h.mono (by have := wb_b.size; omega)); have w2_le := w2_b.size; have w2_s0 : w.heap.size < w2.heap.size := (by omega); have w2_s1 : w.heap.size + 1 < w2.heap.size := (by omega); have w2_s2 : w.heap.size + 2 < w2.heap.size := (by omega); clear w2_h)
      go_wp2_with fail
      rotate_left 2
      · refine bodyPost_ret (v := .tuple #[.agg #[.string f, .string t'], .bool true]) (by simp [results, Try.results106, go_sem, *]) rfl ⟨?_, (by repeat (first | with_reducible exact Below.refl _ _ | with_reducible assumption | with_reducible refine Below.drew ?_ | with_reducible refine below_drawn ?_ | with_reducible refine Below.alloc ?_ (by first | omega | (simp; done) | (simp; omega) | (simp at *; omega)) _ | with_reducible refine Below.setCell ?_ (by first | omega | (simp; done) | (simp; omega) | (simp at *; omega)) _ | with_reducible refine Below.trans ?_ (Below.mono (by assumption) (by first | omega | (simp; done) | (simp; omega) | (simp at *; omega)))))⟩
        simp_all [joinOk, sel, H1.out, H2.out]
      all_goals refine bodyPost_ret (v := .tuple #[.agg #[.string ⟨#[]⟩, .string ⟨#[]⟩], .bool false]) (by simp [results, Try.results106, go_sem, *]) rfl ⟨?_, (by repeat (first | with_reducible exact Below.refl _ _ | with_reducible assumption | with_reducible refine Below.drew ?_ | with_reducible refine below_drawn ?_ | with_reducible refine Below.alloc ?_ (by first | omega | (simp; done) | (simp; omega) | (simp at *; omega)) _ | with_reducible refine Below.setCell ?_ (by first | omega | (simp; done) | (simp; omega) | (simp at *; omega)) _ | with_reducible refine Below.trans ?_ (Below.mono (by assumption) (by first | omega | (simp; done) | (simp; omega) | (simp at *; omega)))))⟩
      · simp_all [joinOk, sel]
      · simp_all [joinOk, sel]
end Go.Proofs.Ytobnibdeimiinaa

/- The contract of the document's All of spans. -/
namespace Go.Proofs.Ytobnibdeimiinaa
open Go.RowKit

def SpanRow (w : World) (b off : Nat) (l : List (ByteArray × ByteArray)) : Prop :=
  ∀ i, (h : i < l.length) → w.cell? ⟨b, off + i * 2, none⟩ = some (.string l[i].1) ∧ w.cell? ⟨b, off + i * 2 + 1, none⟩ = some (.string l[i].2)

set_option maxHeartbeats 4000000 in
theorem ref_all_none (ao : Option Addr) (cap : Nat) (w : World) :
    Calls Try.prog 52 #[.slice ao 0 cap] w fun e w' => e = .returned (.bool false) ∧ Below w.heap.size w w' := by
  go_enter Try.func52, Try.ntmps52
  go_wp2
  refine wp_loop_rounds 1 ?_
  rw [rounds_succ]
  go_wp2
  go_ret
  exact ⟨rfl, (by repeat (first | with_reducible exact Below.refl _ _ | with_reducible assumption | with_reducible refine Below.drew ?_ | with_reducible refine below_drawn ?_ | with_reducible refine Below.alloc ?_ (by first | omega | (simp; done) | (simp; omega) | (simp at *; omega)) _ | with_reducible refine Below.setCell ?_ (by first | omega | (simp; done) | (simp; omega) | (simp at *; omega)) _ | with_reducible refine Below.trans ?_ (Below.mono (by assumption) (by first | omega | (simp; done) | (simp; omega) | (simp at *; omega)))))⟩
/-- After k rounds of the reference's loop without an answer: 'at' is e, and all hangs on the rest. -/
def RSt (l : List Sp) (k : Nat) (e : List UInt8) : Prop := (k = 0 → e = []) ∧ (1 ≤ k → rAll l = finR (rGo e (l.drop k)))
theorem RSt_zero (l : List Sp) : RSt l 0 [] := ⟨fun _ => rfl, fun h => by omega⟩
theorem RSt_first {l : List Sp} (h : 0 < l.length) (hi : isB l[0].1 l[0].2 = true) (hf : l[0].1.toList = []) : RSt l 1 l[0].2.toList := by
  refine ⟨fun h => by omega, fun _ => ?_⟩
  cases l with
  | nil => simp at h
  | cons s r => simp only [List.getElem_cons_zero] at hi hf; simp [rAll, hi, hf]
theorem rAll_first {l : List Sp} (h : 0 < l.length) (hb : isB l[0].1 l[0].2 = false ∨ l[0].1.toList ≠ []) : rAll l = false := by
  cases l with
  | nil => simp at h
  | cons s r => simp only [List.getElem_cons_zero] at hb; rcases hb with hb | hb <;> simp [rAll, hb]
theorem rGo_step (e : List UInt8) (l : List Sp) (k : Nat) (h : k < l.length) : rGo e (l.drop k) = if isB l[k].1 l[k].2 && (l[k].1.toList == e) && !e.isEmpty then rGo l[k].2.toList (l.drop (k + 1)) else none := by
  rw [List.drop_eq_getElem_cons h]; rfl
theorem RSt_next {l : List Sp} {k : Nat} {e : List UInt8} (h : k < l.length) (h1 : 1 ≤ k) (hs : RSt l k e) (hi : isB l[k].1 l[k].2 = true) (hf : l[k].1.toList = e) (he : e ≠ []) : RSt l (k + 1) l[k].2.toList :=
  ⟨fun h => by omega, fun _ => by rw [hs.2 h1, rGo_step e l k h, if_pos (by simp [hi, hf, he])]⟩
theorem rAll_bad {l : List Sp} {k : Nat} {e : List UInt8} (h : k < l.length) (h1 : 1 ≤ k) (hs : RSt l k e) (hb : isB l[k].1 l[k].2 = false ∨ l[k].1.toList ≠ e ∨ e = []) : rAll l = false := by
  rw [hs.2 h1, rGo_step e l k h, if_neg]
  · rfl
  · rcases hb with hb | hb | hb <;> simp [hb]
theorem rAll_end {l : List Sp} {k : Nat} {e : List UInt8} (h : l.length ≤ k) (h1 : 1 ≤ k) (hs : RSt l k e) : rAll l = e.isEmpty := by
  rw [hs.2 h1, List.drop_eq_nil_of_le h]; rfl

set_option maxHeartbeats 4000000 in
theorem ref_all_some (b off cap : Nat) (l : List Sp) (w : World) (hl : l.length ≤ 9223372036854775807) (hr : SpanRow w b off l) (hpos : 0 < l.length) (hb : b < w.heap.size) :
    Calls Try.prog 52 #[.slice (some ⟨b, off, none⟩) l.length cap] w fun e w' => e = .returned (.bool (rAll l)) ∧ Below w.heap.size w w' := by
  go_enter Try.func52, Try.ntmps52
  go_wp2
  go_loopw [3, 4] (fun s i wr => ∃ (k : Nat) (e : ByteArray), k ≤ l.length ∧ i = .int .i64 k ∧ s = .string e ∧ Below w.heap.size w wr ∧ Hid (RSt l k e.toList)) (fun _ i _ => l.length - (intOf i).toNat)
  case atStart => exact ⟨0, ⟨#[]⟩, Nat.zero_le _, rfl, rfl, (by repeat (first | with_reducible exact Below.refl _ _ | with_reducible assumption | with_reducible refine Below.drew ?_ | with_reducible refine below_drawn ?_ | with_reducible refine Below.alloc ?_ (by first | omega | (simp; done) | (simp; omega) | (simp at *; omega)) _ | with_reducible refine Below.setCell ?_ (by first | omega | (simp; done) | (simp; omega) | (simp at *; omega)) _ | with_reducible refine Below.trans ?_ (Below.mono (by assumption) (by first | omega | (simp; done) | (simp; omega) | (simp at *; omega))))), by have := RSt_zero l; simpa [Hid] using this⟩
  case round =>
    obtain ⟨k, e, hk, rfl, rfl, wr_b, hst⟩ := hrel
    by_cases hlt : k < l.length
    · have h1 : wr.cell? ⟨b, off + k * 2, none⟩ = some (.string l[k].1) := (wr_b.cell (p := ⟨b, off + k * 2, none⟩) hb).trans (hr k hlt).1
      have h2 : wr.cell? ⟨b, off + k * 2 + 1, none⟩ = some (.string l[k].2) := (wr_b.cell (p := ⟨b, off + k * 2 + 1, none⟩) hb).trans (hr k hlt).2
      clear hr
      cases hi : isB l[k].1 l[k].2 <;> have Hi := Lib.hid hi <;> clear hi
      · go_wp2_with fail
        refine (satrapyref12_is l[k].1 l[k].2 _).mono ?_
        rw [Hi.out]
        rintro e1 w1 ⟨rfl, w1_h⟩
        go_wp2_with fail
        go_ret
        refine ⟨?_, wr_b.trans (w1_h.mono wr_b.size)⟩
        by_cases h0 : k = 0
        · subst h0; rw [rAll_first hpos (.inl Hi.out)]; rfl
        · rw [rAll_bad hlt (by omega) hst.out (.inl Hi.out)]; rfl
      · go_wp2_with fail
        refine (satrapyref12_is l[k].1 l[k].2 _).mono ?_
        rw [Hi.out]
        rintro e1 w1 ⟨rfl, w1_h⟩
        obtain ⟨w1_hc, w1_hf⟩ := bcell w1_h
        have hbw : b < wr.heap.size := Nat.lt_of_lt_of_le hb wr_b.size
        have w1_b := wr_b.trans (w1_h.mono wr_b.size)
        clear w1_h
        go_wp2_with fail
        · go_ret
          exact ⟨by rw [rAll_bad hlt (by omega) hst.out (.inr (.inr (by simpa using ‹e.toList.isEmpty = true›)))]; rfl, w1_b⟩
        · go_roundw
          case rel => exact ⟨k + 1, l[k].2, by omega, by go_num, rfl, w1_b, RSt_next hlt (by omega) hst.out Hi.out ‹_› (by simpa using ‹e.toList.isEmpty = false›)⟩
          case measure => simp [intOf]; omega
        · obtain rfl : k = 0 := by omega
          go_roundw
          case rel => exact ⟨1, l[0].2, by omega, by go_num, rfl, w1_b, RSt_first hlt Hi.out (by rw [‹l[0].1.toList = e.toList›]; exact hst.out.1 rfl)⟩
          case measure => simp [intOf]; omega
        · go_ret
          refine ⟨?_, w1_b⟩
          by_cases h0 : k = 0
          · subst h0; rw [rAll_first hpos (.inr (by rw [← hst.out.1 rfl]; assumption))]; rfl
          · rw [rAll_bad hlt (by omega) hst.out (.inr (.inl ‹_›))]; rfl
    · clear hr
      have hkl : (k : Int) = l.length := by omega
      have Hkl := Lib.hid hkl; clear hkl
      go_wp2_with fail
      go_ret
      refine ⟨?_, (by repeat (first | with_reducible exact Below.refl _ _ | with_reducible assumption | with_reducible refine Below.drew ?_ | with_reducible refine below_drawn ?_ | with_reducible refine Below.alloc ?_ (by first | omega | (simp; done) | (simp; omega) | (simp at *; omega)) _ | with_reducible refine Below.setCell ?_ (by first | omega | (simp; done) | (simp; omega) | (simp at *; omega)) _ | with_reducible refine Below.trans ?_ (Below.mono (by assumption) (by first | omega | (simp; done) | (simp; omega) | (simp at *; omega)))))⟩
      rw [rAll_end (by omega) (by omega) hst.out]; simp; try omega
end Go.Proofs.Ytobnibdeimiinaa
