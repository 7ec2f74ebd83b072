/- Contracts of package span's Join and All, of the reference's, and of the laws' own helpers. -/
import Derived.Test.YtkggjcfjehbbnaaW1
namespace Go.Proofs.Ytkggjcfjehbbnaa
open Go.RowKit
set_option maxHeartbeats 1000000 in
theorem span_join (f t f' t' : ByteArray) (w : World) :
    Calls Try.prog 18 #[.agg #[.string f, .string t], .agg #[.string f', .string t']] w fun e w' => e = .returned (.tuple #[.agg #[.string (sel (joinOk f t f' t') f), .string (sel (joinOk f t f' t') t')], .bool (joinOk f t f' t')]) ∧ Below w.heap.size w w' := by
  cases h1 : isB f t <;> have H1 := Lib.hid h1 <;> clear h1
  · go_enter Try.func18, Try.ntmps18
    go_wp2_with fail
    (refine calls_name fun wa hwa => ?_; have wa_s0 : w.heap.size < wa.heap.size := (by rw [hwa]; first | omega | (simp; done) | (simp; omega)); have wa_s1 : w.heap.size + 1 < wa.heap.size := (by rw [hwa]; first | omega | (simp; done) | (simp; omega)); have wa_s2 : w.heap.size + 2 < wa.heap.size := (by rw [hwa]; first | omega | (simp; done) | (simp; omega)); have wa_c0 : wa.cell? ⟨w.heap.size, 0, none⟩ = some (.string f) := (by rw [hwa]; go_simp); have wa_c1 : wa.cell? ⟨w.heap.size, 1, none⟩ = some (.string t) := (by rw [hwa]; go_simp); have wa_c2 : wa.cell? ⟨w.heap.size + 1, 0, none⟩ = some (.string f') := (by rw [hwa]; go_simp); have wa_c3 : wa.cell? ⟨w.heap.size + 1, 1, none⟩ = some (.string t') := (by rw [hwa]; go_simp); have wa_c4 : wa.cell? ⟨w.heap.size + 2, 0, none⟩ = some (.string ⟨#[]⟩) := (by rw [hwa]; go_simp); have wa_f4 : wa.frozen? ⟨w.heap.size + 2, 0, none⟩ = false := (by rw [hwa]; go_simp); have wa_c5 : wa.cell? ⟨w.heap.size + 2, 1, none⟩ = some (.string ⟨#[]⟩) := (by rw [hwa]; go_simp); have wa_f5 : wa.frozen? ⟨w.heap.size + 2, 1, none⟩ = false := (by rw [hwa]; go_simp); have wa_b : Below w.heap.size w wa := (by rw [hwa]; exact (by repeat (first | exact Below.refl _ _ | assumption | refine Below.drew ?_ | refine Below.alloc ?_ (by first | omega | (simp; done) | (simp; omega) | (simp at *; omega)) _ | refine Below.setCell ?_ (by first | omega | (simp; done) | (simp; omega) | (simp at *; omega)) _ | refine Below.trans ?_ (Below.mono (by assumption) (by first | omega | (simp; done) | (simp; omega) | (simp at *; omega)))))); clear hwa)
    refine (span_is _ _ _).mono ?_
    rw [H1.out]
    (rintro e w1 ⟨rfl, w1_h⟩; obtain ⟨w1_hc, w1_hf⟩ := bcell w1_h; have w1_z := w1_h.size; have w1_b := wa_b.trans (w1_h.mono (by have := wa_b.size; omega)); have w1_le := w1_b.size; have w1_s0 : w.heap.size < w1.heap.size := (by omega); have w1_s1 : w.heap.size + 1 < w1.heap.size := (by omega); have w1_s2 : w.heap.size + 2 < w1.heap.size := (by omega); clear w1_h)
    go_wp2_with fail
    refine bodyPost_ret (v := .tuple #[.agg #[.string ⟨#[]⟩, .string ⟨#[]⟩], .bool false]) (by simp [results, Try.results18, go_sem, *]) rfl ⟨?_, (by repeat (first | exact Below.refl _ _ | assumption | refine Below.drew ?_ | refine Below.alloc ?_ (by first | omega | (simp; done) | (simp; omega) | (simp at *; omega)) _ | refine Below.setCell ?_ (by first | omega | (simp; done) | (simp; omega) | (simp at *; omega)) _ | refine Below.trans ?_ (Below.mono (by assumption) (by first | omega | (simp; done) | (simp; omega) | (simp at *; omega)))))⟩
    simp [joinOk, sel, H1.out]
  · cases h2 : isB f' t' <;> have H2 := Lib.hid h2 <;> clear h2
    · go_enter Try.func18, Try.ntmps18
      go_wp2_with fail
      (refine calls_name fun wa hwa => ?_; have wa_s0 : w.heap.size < wa.heap.size := (by rw [hwa]; first | omega | (simp; done) | (simp; omega)); have wa_s1 : w.heap.size + 1 < wa.heap.size := (by rw [hwa]; first | omega | (simp; done) | (simp; omega)); have wa_s2 : w.heap.size + 2 < wa.heap.size := (by rw [hwa]; first | omega | (simp; done) | (simp; omega)); have wa_c0 : wa.cell? ⟨w.heap.size, 0, none⟩ = some (.string f) := (by rw [hwa]; go_simp); have wa_c1 : wa.cell? ⟨w.heap.size, 1, none⟩ = some (.string t) := (by rw [hwa]; go_simp); have wa_c2 : wa.cell? ⟨w.heap.size + 1, 0, none⟩ = some (.string f') := (by rw [hwa]; go_simp); have wa_c3 : wa.cell? ⟨w.heap.size + 1, 1, none⟩ = some (.string t') := (by rw [hwa]; go_simp); have wa_c4 : wa.cell? ⟨w.heap.size + 2, 0, none⟩ = some (.string ⟨#[]⟩) := (by rw [hwa]; go_simp); have wa_f4 : wa.frozen? ⟨w.heap.size + 2, 0, none⟩ = false := (by rw [hwa]; go_simp); have wa_c5 : wa.cell? ⟨w.heap.size + 2, 1, none⟩ = some (.string ⟨#[]⟩) := (by rw [hwa]; go_simp); have wa_f5 : wa.frozen? ⟨w.heap.size + 2, 1, none⟩ = false := (by rw [hwa]; go_simp); have wa_b : Below w.heap.size w wa := (by rw [hwa]; exact (by repeat (first | exact Below.refl _ _ | assumption | refine Below.drew ?_ | refine Below.alloc ?_ (by first | omega | (simp; done) | (simp; omega) | (simp at *; omega)) _ | refine Below.setCell ?_ (by first | omega | (simp; done) | (simp; omega) | (simp at *; omega)) _ | refine Below.trans ?_ (Below.mono (by assumption) (by first | omega | (simp; done) | (simp; omega) | (simp at *; omega)))))); clear hwa)
      refine (span_is _ _ _).mono ?_
      rw [H1.out]
      (rintro e w1 ⟨rfl, w1_h⟩; obtain ⟨w1_hc, w1_hf⟩ := bcell w1_h; have w1_z := w1_h.size; have w1_b := wa_b.trans (w1_h.mono (by have := wa_b.size; omega)); have w1_le := w1_b.size; have w1_s0 : w.heap.size < w1.heap.size := (by omega); have w1_s1 : w.heap.size + 1 < w1.heap.size := (by omega); have w1_s2 : w.heap.size + 2 < w1.heap.size := (by omega); clear w1_h)
      go_wp2_with fail
      (refine calls_name fun wb hwb => ?_; have wb_s0 : w.heap.size < wb.heap.size := (by rw [hwb]; first | omega | (simp; done) | (simp; omega)); have wb_s1 : w.heap.size + 1 < wb.heap.size := (by rw [hwb]; first | omega | (simp; done) | (simp; omega)); have wb_s2 : w.heap.size + 2 < wb.heap.size := (by rw [hwb]; first | omega | (simp; done) | (simp; omega)); have wb_c0 : wb.cell? ⟨w.heap.size, 0, none⟩ = some (.string f) := (by rw [hwb]; go_simp); have wb_c1 : wb.cell? ⟨w.heap.size, 1, none⟩ = some (.string t) := (by rw [hwb]; go_simp); have wb_c2 : wb.cell? ⟨w.heap.size + 1, 0, none⟩ = some (.string f') := (by rw [hwb]; go_simp); have wb_c3 : wb.cell? ⟨w.heap.size + 1, 1, none⟩ = some (.string t') := (by rw [hwb]; go_simp); have wb_c4 : wb.cell? ⟨w.heap.size + 2, 0, none⟩ = some (.string ⟨#[]⟩) := (by rw [hwb]; go_simp); have wb_f4 : wb.frozen? ⟨w.heap.size + 2, 0, none⟩ = false := (by rw [hwb]; go_simp); have wb_c5 : wb.cell? ⟨w.heap.size + 2, 1, none⟩ = some (.string ⟨#[]⟩) := (by rw [hwb]; go_simp); have wb_f5 : wb.frozen? ⟨w.heap.size + 2, 1, none⟩ = false := (by rw [hwb]; go_simp); have wb_b : Below w.heap.size w wb := (by rw [hwb]; exact (by repeat (first | exact Below.refl _ _ | assumption | refine Below.drew ?_ | refine Below.alloc ?_ (by first | omega | (simp; done) | (simp; omega) | (simp at *; omega)) _ | refine Below.setCell ?_ (by first | omega | (simp; done) | (simp; omega) | (simp at *; omega)) _ | refine Below.trans ?_ (Below.mono (by assumption) (by first | omega | (simp; done) | (simp; omega) | (simp at *; omega)))))); clear hwb)
      refine (span_is _ _ _).mono ?_
      rw [H2.out]
      (rintro e w2 ⟨rfl, w2_h⟩; obtain ⟨w2_hc, w2_hf⟩ := bcell w2_h; have w2_z := w2_h.size; have w2_b := wb_b.trans (w2_h.mono (by have := wb_b.size; omega)); have w2_le := w2_b.size; have w2_s0 : w.heap.size < w2.heap.size := (by omega); have w2_s1 : w.heap.size + 1 < w2.heap.size := (by omega); have w2_s2 : w.heap.size + 2 < w2.heap.size := (by omega); clear w2_h)
      go_wp2_with fail
      refine bodyPost_ret (v := .tuple #[.agg #[.string ⟨#[]⟩, .string ⟨#[]⟩], .bool false]) (by simp [results, Try.results18, go_sem, *]) rfl ⟨?_, (by repeat (first | exact Below.refl _ _ | assumption | refine Below.drew ?_ | refine Below.alloc ?_ (by first | omega | (simp; done) | (simp; omega) | (simp at *; omega)) _ | refine Below.setCell ?_ (by first | omega | (simp; done) | (simp; omega) | (simp at *; omega)) _ | refine Below.trans ?_ (Below.mono (by assumption) (by first | omega | (simp; done) | (simp; omega) | (simp at *; omega)))))⟩
      simp [joinOk, sel, H2.out]
    · go_enter Try.func18, Try.ntmps18
      go_wp2_with fail
      (refine calls_name fun wa hwa => ?_; have wa_s0 : w.heap.size < wa.heap.size := (by rw [hwa]; first | omega | (simp; done) | (simp; omega)); have wa_s1 : w.heap.size + 1 < wa.heap.size := (by rw [hwa]; first | omega | (simp; done) | (simp; omega)); have wa_s2 : w.heap.size + 2 < wa.heap.size := (by rw [hwa]; first | omega | (simp; done) | (simp; omega)); have wa_c0 : wa.cell? ⟨w.heap.size, 0, none⟩ = some (.string f) := (by rw [hwa]; go_simp); have wa_c1 : wa.cell? ⟨w.heap.size, 1, none⟩ = some (.string t) := (by rw [hwa]; go_simp); have wa_c2 : wa.cell? ⟨w.heap.size + 1, 0, none⟩ = some (.string f') := (by rw [hwa]; go_simp); have wa_c3 : wa.cell? ⟨w.heap.size + 1, 1, none⟩ = some (.string t') := (by rw [hwa]; go_simp); have wa_c4 : wa.cell? ⟨w.heap.size + 2, 0, none⟩ = some (.string ⟨#[]⟩) := (by rw [hwa]; go_simp); have wa_f4 : wa.frozen? ⟨w.heap.size + 2, 0, none⟩ = false := (by rw [hwa]; go_simp); have wa_c5 : wa.cell? ⟨w.heap.size + 2, 1, none⟩ = some (.string ⟨#[]⟩) := (by rw [hwa]; go_simp); have wa_f5 : wa.frozen? ⟨w.heap.size + 2, 1, none⟩ = false := (by rw [hwa]; go_simp); have wa_b : Below w.heap.size w wa := (by rw [hwa]; exact (by repeat (first | exact Below.refl _ _ | assumption | refine Below.drew ?_ | refine Below.alloc ?_ (by first | omega | (simp; done) | (simp; omega) | (simp at *; omega)) _ | refine Below.setCell ?_ (by first | omega | (simp; done) | (simp; omega) | (simp at *; omega)) _ | refine Below.trans ?_ (Below.mono (by assumption) (by first | omega | (simp; done) | (simp; omega) | (simp at *; omega)))))); clear hwa)
      refine (span_is _ _ _).mono ?_
      rw [H1.out]
      (rintro e w1 ⟨rfl, w1_h⟩; obtain ⟨w1_hc, w1_hf⟩ := bcell w1_h; have w1_z := w1_h.size; have w1_b := wa_b.trans (w1_h.mono (by have := wa_b.size; omega)); have w1_le := w1_b.size; have w1_s0 : w.heap.size < w1.heap.size := (by omega); have w1_s1 : w.heap.size + 1 < w1.heap.size := (by omega); have w1_s2 : w.heap.size + 2 < w1.heap.size := (by omega); clear w1_h)
      go_wp2_with fail
      (refine calls_name fun wb hwb => ?_; have wb_s0 : w.heap.size < wb.heap.size := (by rw [hwb]; first | omega | (simp; done) | (simp; omega)); have wb_s1 : w.heap.size + 1 < wb.heap.size := (by rw [hwb]; first | omega | (simp; done) | (simp; omega)); have wb_s2 : w.heap.size + 2 < wb.heap.size := (by rw [hwb]; first | omega | (simp; done) | (simp; omega)); have wb_c0 : wb.cell? ⟨w.heap.size, 0, none⟩ = some (.string f) := (by rw [hwb]; go_simp); have wb_c1 : wb.cell? ⟨w.heap.size, 1, none⟩ = some (.string t) := (by rw [hwb]; go_simp); have wb_c2 : wb.cell? ⟨w.heap.size + 1, 0, none⟩ = some (.string f') := (by rw [hwb]; go_simp); have wb_c3 : wb.cell? ⟨w.heap.size + 1, 1, none⟩ = some (.string t') := (by rw [hwb]; go_simp); have wb_c4 : wb.cell? ⟨w.heap.size + 2, 0, none⟩ = some (.string ⟨#[]⟩) := (by rw [hwb]; go_simp); have wb_f4 : wb.frozen? ⟨w.heap.size + 2, 0, none⟩ = false := (by rw [hwb]; go_simp); have wb_c5 : wb.cell? ⟨w.heap.size + 2, 1, none⟩ = some (.string ⟨#[]⟩) := (by rw [hwb]; go_simp); have wb_f5 : wb.frozen? ⟨w.heap.size + 2, 1, none⟩ = false := (by rw [hwb]; go_simp); have wb_b : Below w.heap.size w wb := (by rw [hwb]; exact (by repeat (first | exact Below.refl _ _ | assumption | refine Below.drew ?_ | refine Below.alloc ?_ (by first | omega | (simp; done) | (simp; omega) | (simp at *; omega)) _ | refine Below.setCell ?_ (by first | omega | (simp; done) | (simp; omega) | (simp at *; omega)) _ | refine Below.trans ?_ (Below.mono (by assumption) (by first | omega | (simp; done) | (simp; omega) | (simp at *; omega)))))); clear hwb)
      refine (span_is _ _ _).mono ?_
      rw [H2.out]
      (rintro e w2 ⟨rfl, w2_h⟩; obtain ⟨w2_hc, w2_hf⟩ := bcell w2_h; have w2_z := w2_h.size; have w2_b := wb_b.trans (w2_h.mono (by have := wb_b.size; omega)); have w2_le := w2_b.size; have w2_s0 : w.heap.size < w2.heap.size := (by omega); have w2_s1 : w.heap.size + 1 < w2.heap.size := (by omega); have w2_s2 : w.heap.size + 2 < w2.heap.size := (by omega); clear w2_h)
      go_wp2_with fail
      rotate_left 2
      · refine bodyPost_ret (v := .tuple #[.agg #[.string f, .string t'], .bool true]) (by simp [results, Try.results18, go_sem, *]) rfl ⟨?_, (by repeat (first | exact Below.refl _ _ | assumption | refine Below.drew ?_ | refine Below.alloc ?_ (by first | omega | (simp; done) | (simp; omega) | (simp at *; omega)) _ | refine Below.setCell ?_ (by first | omega | (simp; done) | (simp; omega) | (simp at *; omega)) _ | refine Below.trans ?_ (Below.mono (by assumption) (by first | omega | (simp; done) | (simp; omega) | (simp at *; omega)))))⟩
        simp_all [joinOk, sel, H1.out, H2.out]
      all_goals refine bodyPost_ret (v := .tuple #[.agg #[.string ⟨#[]⟩, .string ⟨#[]⟩], .bool false]) (by simp [results, Try.results18, go_sem, *]) rfl ⟨?_, (by repeat (first | exact Below.refl _ _ | assumption | refine Below.drew ?_ | refine Below.alloc ?_ (by first | omega | (simp; done) | (simp; omega) | (simp at *; omega)) _ | refine Below.setCell ?_ (by first | omega | (simp; done) | (simp; omega) | (simp at *; omega)) _ | refine Below.trans ?_ (Below.mono (by assumption) (by first | omega | (simp; done) | (simp; omega) | (simp at *; omega)))))⟩
      · simp_all [joinOk, sel]
      · simp_all [joinOk, sel]
set_option maxHeartbeats 1000000 in
theorem satrapyref12_join (f t f' t' : ByteArray) (w : World) :
    Calls Try.prog 19 #[.agg #[.string f, .string t], .agg #[.string f', .string t']] w fun e w' => e = .returned (.tuple #[.agg #[.string (sel (joinOk f t f' t') f), .string (sel (joinOk f t f' t') t')], .bool (joinOk f t f' t')]) ∧ Below w.heap.size w w' := by
  cases h1 : isB f t <;> have H1 := Lib.hid h1 <;> clear h1
  · go_enter Try.func19, Try.ntmps19
    go_wp2_with fail
    (refine calls_name fun wa hwa => ?_; have wa_s0 : w.heap.size < wa.heap.size := (by rw [hwa]; first | omega | (simp; done) | (simp; omega)); have wa_s1 : w.heap.size + 1 < wa.heap.size := (by rw [hwa]; first | omega | (simp; done) | (simp; omega)); have wa_s2 : w.heap.size + 2 < wa.heap.size := (by rw [hwa]; first | omega | (simp; done) | (simp; omega)); have wa_c0 : wa.cell? ⟨w.heap.size, 0, none⟩ = some (.string f) := (by rw [hwa]; go_simp); have wa_c1 : wa.cell? ⟨w.heap.size, 1, none⟩ = some (.string t) := (by rw [hwa]; go_simp); have wa_c2 : wa.cell? ⟨w.heap.size + 1, 0, none⟩ = some (.string f') := (by rw [hwa]; go_simp); have wa_c3 : wa.cell? ⟨w.heap.size + 1, 1, none⟩ = some (.string t') := (by rw [hwa]; go_simp); have wa_c4 : wa.cell? ⟨w.heap.size + 2, 0, none⟩ = some (.string ⟨#[]⟩) := (by rw [hwa]; go_simp); have wa_f4 : wa.frozen? ⟨w.heap.size + 2, 0, none⟩ = false := (by rw [hwa]; go_simp); have wa_c5 : wa.cell? ⟨w.heap.size + 2, 1, none⟩ = some (.string ⟨#[]⟩) := (by rw [hwa]; go_simp); have wa_f5 : wa.frozen? ⟨w.heap.size + 2, 1, none⟩ = false := (by rw [hwa]; go_simp); have wa_b : Below w.heap.size w wa := (by rw [hwa]; exact (by repeat (first | exact Below.refl _ _ | assumption | refine Below.drew ?_ | refine Below.alloc ?_ (by first | omega | (simp; done) | (simp; omega) | (simp at *; omega)) _ | refine Below.setCell ?_ (by first | omega | (simp; done) | (simp; omega) | (simp at *; omega)) _ | refine Below.trans ?_ (Below.mono (by assumption) (by first | omega | (simp; done) | (simp; omega) | (simp at *; omega)))))); clear hwa)
    refine (satrapyref12_is _ _ _).mono ?_
    rw [H1.out]
    (rintro e w1 ⟨rfl, w1_h⟩; obtain ⟨w1_hc, w1_hf⟩ := bcell w1_h; have w1_z := w1_h.size; have w1_b := wa_b.trans (w1_h.mono (by have := wa_b.size; omega)); have w1_le := w1_b.size; have w1_s0 : w.heap.size < w1.heap.size := (by omega); have w1_s1 : w.heap.size + 1 < w1.heap.size := (by omega); have w1_s2 : w.heap.size + 2 < w1.heap.size := (by omega); clear w1_h)
    go_wp2_with fail
    refine bodyPost_ret (v := .tuple #[.agg #[.string ⟨#[]⟩, .string ⟨#[]⟩], .bool false]) (by simp [results, Try.results19, go_sem, *]) rfl ⟨?_, (by repeat (first | exact Below.refl _ _ | assumption | refine Below.drew ?_ | refine Below.alloc ?_ (by first | omega | (simp; done) | (simp; omega) | (simp at *; omega)) _ | refine Below.setCell ?_ (by first | omega | (simp; done) | (simp; omega) | (simp at *; omega)) _ | refine Below.trans ?_ (Below.mono (by assumption) (by first | omega | (simp; done) | (simp; omega) | (simp at *; omega)))))⟩
    simp [joinOk, sel, H1.out]
  · cases h2 : isB f' t' <;> have H2 := Lib.hid h2 <;> clear h2
    · go_enter Try.func19, Try.ntmps19
      go_wp2_with fail
      (refine calls_name fun wa hwa => ?_; have wa_s0 : w.heap.size < wa.heap.size := (by rw [hwa]; first | omega | (simp; done) | (simp; omega)); have wa_s1 : w.heap.size + 1 < wa.heap.size := (by rw [hwa]; first | omega | (simp; done) | (simp; omega)); have wa_s2 : w.heap.size + 2 < wa.heap.size := (by rw [hwa]; first | omega | (simp; done) | (simp; omega)); have wa_c0 : wa.cell? ⟨w.heap.size, 0, none⟩ = some (.string f) := (by rw [hwa]; go_simp); have wa_c1 : wa.cell? ⟨w.heap.size, 1, none⟩ = some (.string t) := (by rw [hwa]; go_simp); have wa_c2 : wa.cell? ⟨w.heap.size + 1, 0, none⟩ = some (.string f') := (by rw [hwa]; go_simp); have wa_c3 : wa.cell? ⟨w.heap.size + 1, 1, none⟩ = some (.string t') := (by rw [hwa]; go_simp); have wa_c4 : wa.cell? ⟨w.heap.size + 2, 0, none⟩ = some (.string ⟨#[]⟩) := (by rw [hwa]; go_simp); have wa_f4 : wa.frozen? ⟨w.heap.size + 2, 0, none⟩ = false := (by rw [hwa]; go_simp); have wa_c5 : wa.cell? ⟨w.heap.size + 2, 1, none⟩ = some (.string ⟨#[]⟩) := (by rw [hwa]; go_simp); have wa_f5 : wa.frozen? ⟨w.heap.size + 2, 1, none⟩ = false := (by rw [hwa]; go_simp); have wa_b : Below w.heap.size w wa := (by rw [hwa]; exact (by repeat (first | exact Below.refl _ _ | assumption | refine Below.drew ?_ | refine Below.alloc ?_ (by first | omega | (simp; done) | (simp; omega) | (simp at *; omega)) _ | refine Below.setCell ?_ (by first | omega | (simp; done) | (simp; omega) | (simp at *; omega)) _ | refine Below.trans ?_ (Below.mono (by assumption) (by first | omega | (simp; done) | (simp; omega) | (simp at *; omega)))))); clear hwa)
      refine (satrapyref12_is _ _ _).mono ?_
      rw [H1.out]
      (rintro e w1 ⟨rfl, w1_h⟩; obtain ⟨w1_hc, w1_hf⟩ := bcell w1_h; have w1_z := w1_h.size; have w1_b := wa_b.trans (w1_h.mono (by have := wa_b.size; omega)); have w1_le := w1_b.size; have w1_s0 : w.heap.size < w1.heap.size := (by omega); have w1_s1 : w.heap.size + 1 < w1.heap.size := (by omega); have w1_s2 : w.heap.size + 2 < w1.heap.size := (by omega); clear w1_h)
      go_wp2_with fail
      (refine calls_name fun wb hwb => ?_; have wb_s0 : w.heap.size < wb.heap.size := (by rw [hwb]; first | omega | (simp; done) | (simp; omega)); have wb_s1 : w.heap.size + 1 < wb.heap.size := (by rw [hwb]; first | omega | (simp; done) | (simp; omega)); have wb_s2 : w.heap.size + 2 < wb.heap.size := (by rw [hwb]; first | omega | (simp; done) | (simp; omega)); have wb_c0 : wb.cell? ⟨w.heap.size, 0, none⟩ = some (.string f) := (by rw [hwb]; go_simp); have wb_c1 : wb.cell? ⟨w.heap.size, 1, none⟩ = some (.string t) := (by rw [hwb]; go_simp); have wb_c2 : wb.cell? ⟨w.heap.size + 1, 0, none⟩ = some (.string f') := (by rw [hwb]; go_simp); have wb_c3 : wb.cell? ⟨w.heap.size + 1, 1, none⟩ = some (.string t') := (by rw [hwb]; go_simp); have wb_c4 : wb.cell? ⟨w.heap.size + 2, 0, none⟩ = some (.string ⟨#[]⟩) := (by rw [hwb]; go_simp); have wb_f4 : wb.frozen? ⟨w.heap.size + 2, 0, none⟩ = false := (by rw [hwb]; go_simp); have wb_c5 : wb.cell? ⟨w.heap.size + 2, 1, none⟩ = some (.string ⟨#[]⟩) := (by rw [hwb]; go_simp); have wb_f5 : wb.frozen? ⟨w.heap.size + 2, 1, none⟩ = false := (by rw [hwb]; go_simp); have wb_b : Below w.heap.size w wb := (by rw [hwb]; exact (by repeat (first | exact Below.refl _ _ | assumption | refine Below.drew ?_ | refine Below.alloc ?_ (by first | omega | (simp; done) | (simp; omega) | (simp at *; omega)) _ | refine Below.setCell ?_ (by first | omega | (simp; done) | (simp; omega) | (simp at *; omega)) _ | refine Below.trans ?_ (Below.mono (by assumption) (by first | omega | (simp; done) | (simp; omega) | (simp at *; omega)))))); clear hwb)
      refine (satrapyref12_is _ _ _).mono ?_
      rw [H2.out]
      (rintro e w2 ⟨rfl, w2_h⟩; obtain ⟨w2_hc, w2_hf⟩ := bcell w2_h; have w2_z := w2_h.size; have w2_b := wb_b.trans (w2_h.mono (by have := wb_b.size; omega)); have w2_le := w2_b.size; have w2_s0 : w.heap.size < w2.heap.size := (by omega); have w2_s1 : w.heap.size + 1 < w2.heap.size := (by omega); have w2_s2 : w.heap.size + 2 < w2.heap.size := (by omega); clear w2_h)
      go_wp2_with fail
      refine bodyPost_ret (v := .tuple #[.agg #[.string ⟨#[]⟩, .string ⟨#[]⟩], .bool false]) (by simp [results, Try.results19, go_sem, *]) rfl ⟨?_, (by repeat (first | exact Below.refl _ _ | assumption | refine Below.drew ?_ | refine Below.alloc ?_ (by first | omega | (simp; done) | (simp; omega) | (simp at *; omega)) _ | refine Below.setCell ?_ (by first | omega | (simp; done) | (simp; omega) | (simp at *; omega)) _ | refine Below.trans ?_ (Below.mono (by assumption) (by first | omega | (simp; done) | (simp; omega) | (simp at *; omega)))))⟩
      simp [joinOk, sel, H2.out]
    · go_enter Try.func19, Try.ntmps19
      go_wp2_with fail
      (refine calls_name fun wa hwa => ?_; have wa_s0 : w.heap.size < wa.heap.size := (by rw [hwa]; first | omega | (simp; done) | (simp; omega)); have wa_s1 : w.heap.size + 1 < wa.heap.size := (by rw [hwa]; first | omega | (simp; done) | (simp; omega)); have wa_s2 : w.heap.size + 2 < wa.heap.size := (by rw [hwa]; first | omega | (simp; done) | (simp; omega)); have wa_c0 : wa.cell? ⟨w.heap.size, 0, none⟩ = some (.string f) := (by rw [hwa]; go_simp); have wa_c1 : wa.cell? ⟨w.heap.size, 1, none⟩ = some (.string t) := (by rw [hwa]; go_simp); have wa_c2 : wa.cell? ⟨w.heap.size + 1, 0, none⟩ = some (.string f') := (by rw [hwa]; go_simp); have wa_c3 : wa.cell? ⟨w.heap.size + 1, 1, none⟩ = some (.string t') := (by rw [hwa]; go_simp); have wa_c4 : wa.cell? ⟨w.heap.size + 2, 0, none⟩ = some (.string ⟨#[]⟩) := (by rw [hwa]; go_simp); have wa_f4 : wa.frozen? ⟨w.heap.size + 2, 0, none⟩ = false := (by rw [hwa]; go_simp); have wa_c5 : wa.cell? ⟨w.heap.size + 2, 1, none⟩ = some (.string ⟨#[]⟩) := (by rw [hwa]; go_simp); have wa_f5 : wa.frozen? ⟨w.heap.size + 2, 1, none⟩ = false := (by rw [hwa]; go_simp); have wa_b : Below w.heap.size w wa := (by rw [hwa]; exact (by repeat (first | exact Below.refl _ _ | assumption | refine Below.drew ?_ | refine Below.alloc ?_ (by first | omega | (simp; done) | (simp; omega) | (simp at *; omega)) _ | refine Below.setCell ?_ (by first | omega | (simp; done) | (simp; omega) | (simp at *; omega)) _ | refine Below.trans ?_ (Below.mono (by assumption) (by first | omega | (simp; done) | (simp; omega) | (simp at *; omega)))))); clear hwa)
      refine (satrapyref12_is _ _ _).mono ?_
      rw [H1.out]
      (rintro e w1 ⟨rfl, w1_h⟩; obtain ⟨w1_hc, w1_hf⟩ := bcell w1_h; have w1_z := w1_h.size; have w1_b := wa_b.trans (w1_h.mono (by have := wa_b.size; omega)); have w1_le := w1_b.size; have w1_s0 : w.heap.size < w1.heap.size := (by omega); have w1_s1 : w.heap.size + 1 < w1.heap.size := (by omega); have w1_s2 : w.heap.size + 2 < w1.heap.size := (by omega); clear w1_h)
      go_wp2_with fail
      (refine calls_name fun wb hwb => ?_; have wb_s0 : w.heap.size < wb.heap.size := (by rw [hwb]; first | omega | (simp; done) | (simp; omega)); have wb_s1 : w.heap.size + 1 < wb.heap.size := (by rw [hwb]; first | omega | (simp; done) | (simp; omega)); have wb_s2 : w.heap.size + 2 < wb.heap.size := (by rw [hwb]; first | omega | (simp; done) | (simp; omega)); have wb_c0 : wb.cell? ⟨w.heap.size, 0, none⟩ = some (.string f) := (by rw [hwb]; go_simp); have wb_c1 : wb.cell? ⟨w.heap.size, 1, none⟩ = some (.string t) := (by rw [hwb]; go_simp); have wb_c2 : wb.cell? ⟨w.heap.size + 1, 0, none⟩ = some (.string f') := (by rw [hwb]; go_simp); have wb_c3 : wb.cell? ⟨w.heap.size + 1, 1, none⟩ = some (.string t') := (by rw [hwb]; go_simp); have wb_c4 : wb.cell? ⟨w.heap.size + 2, 0, none⟩ = some (.string ⟨#[]⟩) := (by rw [hwb]; go_simp); have wb_f4 : wb.frozen? ⟨w.heap.size + 2, 0, none⟩ = false := (by rw [hwb]; go_simp); have wb_c5 : wb.cell? ⟨w.heap.size + 2, 1, none⟩ = some (.string ⟨#[]⟩) := (by rw [hwb]; go_simp); have wb_f5 : wb.frozen? ⟨w.heap.size + 2, 1, none⟩ = false := (by rw [hwb]; go_simp); have wb_b : Below w.heap.size w wb := (by rw [hwb]; exact (by repeat (first | exact Below.refl _ _ | assumption | refine Below.drew ?_ | refine Below.alloc ?_ (by first | omega | (simp; done) | (simp; omega) | (simp at *; omega)) _ | refine Below.setCell ?_ (by first | omega | (simp; done) | (simp; omega) | (simp at *; omega)) _ | refine Below.trans ?_ (Below.mono (by assumption) (by first | omega | (simp; done) | (simp; omega) | (simp at *; omega)))))); clear hwb)
      refine (satrapyref12_is _ _ _).mono ?_
      rw [H2.out]
      (rintro e w2 ⟨rfl, w2_h⟩; obtain ⟨w2_hc, w2_hf⟩ := bcell w2_h; have w2_z := w2_h.size; have w2_b := wb_b.trans (w2_h.mono (by have := wb_b.size; omega)); have w2_le := w2_b.size; have w2_s0 : w.heap.size < w2.heap.size := (by omega); have w2_s1 : w.heap.size + 1 < w2.heap.size := (by omega); have w2_s2 : w.heap.size + 2 < w2.heap.size := (by omega); clear w2_h)
      go_wp2_with fail
      rotate_left 2
      · refine bodyPost_ret (v := .tuple #[.agg #[.string f, .string t'], .bool true]) (by simp [results, Try.results19, go_sem, *]) rfl ⟨?_, (by repeat (first | exact Below.refl _ _ | assumption | refine Below.drew ?_ | refine Below.alloc ?_ (by first | omega | (simp; done) | (simp; omega) | (simp at *; omega)) _ | refine Below.setCell ?_ (by first | omega | (simp; done) | (simp; omega) | (simp at *; omega)) _ | refine Below.trans ?_ (Below.mono (by assumption) (by first | omega | (simp; done) | (simp; omega) | (simp at *; omega)))))⟩
        simp_all [joinOk, sel, H1.out, H2.out]
      all_goals refine bodyPost_ret (v := .tuple #[.agg #[.string ⟨#[]⟩, .string ⟨#[]⟩], .bool false]) (by simp [results, Try.results19, go_sem, *]) rfl ⟨?_, (by repeat (first | exact Below.refl _ _ | assumption | refine Below.drew ?_ | refine Below.alloc ?_ (by first | omega | (simp; done) | (simp; omega) | (simp at *; omega)) _ | refine Below.setCell ?_ (by first | omega | (simp; done) | (simp; omega) | (simp at *; omega)) _ | refine Below.trans ?_ (Below.mono (by assumption) (by first | omega | (simp; done) | (simp; omega) | (simp at *; omega)))))⟩
      · simp_all [joinOk, sel]
      · simp_all [joinOk, sel]

theorem cut_known : cutOk ⟨#[97]⟩ ⟨#[]⟩ ⟨#[109]⟩ = true := by decide +kernel

set_option maxHeartbeats 1000000 in
theorem known_any (w : World) :
    Calls Try.prog 16 #[] w fun e w' => e = .returned (.bool true) ∧ Below w.heap.size w w' := by
  go_enter Try.func16, Try.ntmps16
  go_wp2_with fail
  (refine calls_name fun wa hwa => ?_; have wa_b : Below w.heap.size w wa := (by rw [hwa]; exact (by repeat (first | exact Below.refl _ _ | assumption | refine Below.drew ?_ | refine Below.alloc ?_ (by first | omega | (simp; done) | (simp; omega) | (simp at *; omega)) _ | refine Below.setCell ?_ (by first | omega | (simp; done) | (simp; omega) | (simp at *; omega)) _ | refine Below.trans ?_ (Below.mono (by assumption) (by first | omega | (simp; done) | (simp; omega) | (simp at *; omega)))))); clear hwa)
  refine (span_cut _ _ _ _).mono ?_
  rw [cut_known]
  simp only [sel, if_true]
  (rintro e w1 ⟨rfl, w1_h⟩; obtain ⟨w1_hc, w1_hf⟩ := bcell w1_h; have w1_z := w1_h.size; have w1_b := wa_b.trans (w1_h.mono (by have := wa_b.size; omega)); have w1_le := w1_b.size; clear w1_h)
  go_wp2_with fail
  go_ret; exact ⟨rfl, (by repeat (first | exact Below.refl _ _ | assumption | refine Below.drew ?_ | refine Below.alloc ?_ (by first | omega | (simp; done) | (simp; omega) | (simp at *; omega)) _ | refine Below.setCell ?_ (by first | omega | (simp; done) | (simp; omega) | (simp at *; omega)) _ | refine Below.trans ?_ (Below.mono (by assumption) (by first | omega | (simp; done) | (simp; omega) | (simp at *; omega)))))⟩

def tooB (l : List (ByteArray × ByteArray)) : Bool := l.any fun s => decide ((200 : Int) < s.1.size) || decide ((200 : Int) < s.2.size)
def SpanRow (w : World) (b off : Nat) (l : List (ByteArray × ByteArray)) : Prop :=
  ∀ i, (h : i < l.length) → w.cell? ⟨b, off + i * 2, none⟩ = some (.string l[i].1) ∧ w.cell? ⟨b, off + i * 2 + 1, none⟩ = some (.string l[i].2)

theorem too_hit {l : List (ByteArray × ByteArray)} {k : Nat} (h : k < l.length) (hb : (200 : Int) < l[k].1.size ∨ (200 : Int) < l[k].2.size) : tooB l = true := by
  unfold tooB
  rw [List.any_eq_true]
  exact ⟨l[k], List.getElem_mem h, by simpa using hb⟩
theorem too_next {l : List (ByteArray × ByteArray)} {k : Nat} (h : k < l.length) (ht : tooB (l.take k) = false) (hb : (l[k].1.size : Int) ≤ 200 ∧ (l[k].2.size : Int) ≤ 200) : tooB (l.take (k + 1)) = false := by
  unfold tooB at *
  rw [List.take_succ_eq_append_getElem h, List.any_append, ht]
  simp; omega
theorem too_end {l : List (ByteArray × ByteArray)} {k : Nat} (ht : tooB (l.take k) = false) (h : l.length ≤ k) : tooB l = false := by
  rwa [List.take_of_length_le h] at ht

set_option maxHeartbeats 1000000 in
theorem heavy_any (b off cap : Nat) (l : List (ByteArray × ByteArray)) (w : World) (hl : l.length ≤ 9223372036854775807) (hr : SpanRow w b off l) :
    Calls Try.prog 9 #[.slice (some ⟨b, off, none⟩) l.length cap] w fun e w' => e = .returned (.bool (tooB l)) ∧ w = w' := by
  go_enter Try.func9, Try.ntmps9
  go_wp2
  go_loop [3] (fun i => ∃ k : Nat, k ≤ l.length ∧ i = .int .i64 k ∧ tooB (l.take k) = false) (fun i => l.length - (intOf i).toNat)
  case atStart => exact ⟨0, Nat.zero_le _, rfl, rfl⟩
  case round =>
    obtain ⟨k, hk, rfl, ht⟩ := hrel
    have Ht := Lib.hid ht; clear ht
    by_cases hlt : k < l.length
    · obtain ⟨h1, h2⟩ := hr k hlt
      have Hr := Lib.hid hr; clear hr
      go_wp2
      · go_ret
        exact ⟨by rw [too_hit hlt (by omega)]; rfl, rfl⟩
      · go_round
        case rel => exact ⟨k + 1, by omega, by go_num, too_next hlt Ht.out (by omega)⟩
        case measure => simp [intOf]; omega
      · go_ret
        exact ⟨by rw [too_hit hlt (by omega)]; rfl, rfl⟩
    · have Hr := Lib.hid hr; clear hr
      go_wp2
      go_ret
      exact ⟨by rw [too_end Ht.out (by omega)]; rfl, rfl⟩
end Go.Proofs.Ytkggjcfjehbbnaa
