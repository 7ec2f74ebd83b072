/- The contract of the program's All. -/
import Derived.Test.YtobnibdeimiinaaSq
namespace Go.Proofs.Ytobnibdeimiinaa.O
open Go.RowKit
set_option maxRecDepth 20000

theorem sGo_step (a : Sp) (l : List Sp) (k : Nat) (h : k < l.length) : sGo a (l.drop k) = if joinOk a.1 a.2 l[k].1 l[k].2 then sGo (a.1, l[k].2) (l.drop (k + 1)) else none := by
  rw [List.drop_eq_getElem_cons h]; rfl
theorem sAll_none {l : List Sp} {a : Sp} {k : Nat} (hl : 0 < l.length) (hs : sGo l[0] l.tail = sGo a (l.drop k)) (h : k < l.length) (hj : joinOk a.1 a.2 l[k].1 l[k].2 = false) : sAll l = false := by
  rw [sGo_step a l k h, hj] at hs
  cases l with
  | nil => simp at hl
  | cons s r => simp only [List.getElem_cons_zero, List.tail_cons] at hs; simp [sAll, hs]
theorem sAll_end {l : List Sp} {a : Sp} {k : Nat} (hl : 0 < l.length) (hs : sGo l[0] l.tail = sGo a (l.drop k)) (h : l.length ≤ k) : sAll l = endB a := by
  rw [List.drop_eq_nil_of_le h] at hs
  cases l with
  | nil => simp at hl
  | cons s r => simp only [List.getElem_cons_zero, List.tail_cons, sGo] at hs; simp [sAll, hs]

set_option maxHeartbeats 4000000 in
theorem span_all_some (b off cap : Nat) (l : List Sp) (w : World) (hl : l.length ≤ 9223372036854775807) (hr : SpanRow w b off l) (hpos : 0 < l.length) (hb : b < w.heap.size) :
    Calls Try.prog 96 #[.slice (some ⟨b, off, none⟩) l.length cap] w fun e w' => e = .returned (.bool (sAll l)) ∧ Below w.heap.size w w' := by
  go_enter Try.func96, Try.ntmps96
  go_wp2
  go_loopw [10] (fun i wr => ∃ (k : Nat) (a : Sp), k ≤ l.length ∧ i = .int .i64 k ∧ Below w.heap.size w wr ∧ w.heap.size < wr.heap.size ∧ wr.cell? ⟨w.heap.size, 0, none⟩ = some (.string a.1) ∧ wr.cell? ⟨w.heap.size, 1, none⟩ = some (.string a.2) ∧ wr.frozen? ⟨w.heap.size, 0, none⟩ = false ∧ wr.frozen? ⟨w.heap.size, 1, none⟩ = false ∧ Hid ((k = 0 → a = (⟨#[]⟩, ⟨#[]⟩)) ∧ (1 ≤ k → sGo l[0] l.tail = sGo a (l.drop k)))) (fun i _ => l.length - (intOf i).toNat)
  case atStart => exact ⟨0, (⟨#[]⟩, ⟨#[]⟩), Nat.zero_le _, rfl, (by repeat (first | with_reducible exact Below.refl _ _ | with_reducible assumption | with_reducible refine Below.drew ?_ | with_reducible refine below_drawn ?_ | with_reducible refine Below.alloc ?_ (by first | omega | (simp; done) | (simp; omega) | (simp at *; omega)) _ | with_reducible refine Below.setCell ?_ (by first | omega | (simp; done) | (simp; omega) | (simp at *; omega)) _ | with_reducible refine Below.trans ?_ (Below.mono (by assumption) (by first | omega | (simp; done) | (simp; omega) | (simp at *; omega))))), by simp, by simp [go_sem], by simp [go_sem], by simp [go_sem], by simp [go_sem], ⟨fun _ => rfl, fun h => by omega⟩⟩
  case round =>
    obtain ⟨k, a, hk, rfl, wr_b, hs, ha1, ha2, hf1, hf2, hst⟩ := hrel
    have Hr := Lib.hid hr
    by_cases hlt : k < l.length
    · have h1 : wr.cell? ⟨b, off + k * 2, none⟩ = some (.string l[k].1) := (wr_b.cell (p := ⟨b, off + k * 2, none⟩) hb).trans (hr k hlt).1
      have h2 : wr.cell? ⟨b, off + k * 2 + 1, none⟩ = some (.string l[k].2) := (wr_b.cell (p := ⟨b, off + k * 2 + 1, none⟩) hb).trans (hr k hlt).2
      clear hr
      by_cases h0 : k = 0
      · subst h0
        simp only [Nat.zero_mul, Nat.add_zero] at h1 h2
        go_wp2_with fail
        go_roundw
        case rel => exact ⟨1, l[0], by omega, by go_num, (by repeat (first | with_reducible exact Below.refl _ _ | with_reducible assumption | with_reducible refine Below.drew ?_ | with_reducible refine below_drawn ?_ | with_reducible refine Below.alloc ?_ (by first | omega | (simp; done) | (simp; omega) | (simp at *; omega)) _ | with_reducible refine Below.setCell ?_ (by first | omega | (simp; done) | (simp; omega) | (simp at *; omega)) _ | with_reducible refine Below.trans ?_ (Below.mono (by assumption) (by first | omega | (simp; done) | (simp; omega) | (simp at *; omega))))), by simp; omega, by go_simp, by go_simp, by go_simp, by go_simp, ⟨fun h => by omega, fun _ => by rw [List.drop_one]⟩⟩
        case measure => simp [intOf]; omega
      · have hk0 : ((k : Int) == 0) = false := by simp; omega
        go_wp2_with fail
        (refine calls_name fun wa hwa => ?_; have wa_s0 : w.heap.size < wa.heap.size := (by rw [hwa]; first | omega | (simp; done) | (simp; omega)); have wa_s1 : wr.heap.size < wa.heap.size := (by rw [hwa]; first | omega | (simp; done) | (simp; omega)); have wa_c0 : wa.cell? ⟨w.heap.size, 0, none⟩ = some (.string a.1) := (by rw [hwa]; go_simp); have wa_f0 : wa.frozen? ⟨w.heap.size, 0, none⟩ = false := (by rw [hwa]; go_simp); have wa_c1 : wa.cell? ⟨w.heap.size, 1, none⟩ = some (.string a.2) := (by rw [hwa]; go_simp); have wa_f1 : wa.frozen? ⟨w.heap.size, 1, none⟩ = false := (by rw [hwa]; go_simp); have wa_c2 : wa.cell? ⟨wr.heap.size, 0, none⟩ = some (.string l[k].1) := (by rw [hwa]; go_simp); have wa_c3 : wa.cell? ⟨wr.heap.size, 1, none⟩ = some (.string l[k].2) := (by rw [hwa]; go_simp); have wa_b : Below w.heap.size w wa := (by rw [hwa]; exact (by repeat (first | with_reducible exact Below.refl _ _ | with_reducible assumption | with_reducible refine Below.drew ?_ | with_reducible refine below_drawn ?_ | with_reducible refine Below.alloc ?_ (by first | omega | (simp; done) | (simp; omega) | (simp at *; omega)) _ | with_reducible refine Below.setCell ?_ (by first | omega | (simp; done) | (simp; omega) | (simp at *; omega)) _ | with_reducible refine Below.trans ?_ (Below.mono (by assumption) (by first | omega | (simp; done) | (simp; omega) | (simp at *; omega)))))); clear hwa)
        refine (span_join a.1 a.2 l[k].1 l[k].2 _).mono ?_
        (rintro e w1 ⟨rfl, w1_h⟩; obtain ⟨w1_hc, w1_hf⟩ := bcell w1_h; have w1_z := w1_h.size; have w1_b := wa_b.trans (w1_h.mono (by have := wa_b.size; omega)); have w1_le := w1_b.size; have w1_s0 : w.heap.size < w1.heap.size := (by omega); have w1_s1 : wr.heap.size < w1.heap.size := (by omega); clear w1_h)
        cases hj : joinOk a.1 a.2 l[k].1 l[k].2
        · simp only [sel]
          go_wp2_with fail
          go_ret
          exact ⟨by rw [sAll_none hpos (hst.out.2 (by omega)) hlt hj]; rfl, (by repeat (first | with_reducible exact Below.refl _ _ | with_reducible assumption | with_reducible refine Below.drew ?_ | with_reducible refine below_drawn ?_ | with_reducible refine Below.alloc ?_ (by first | omega | (simp; done) | (simp; omega) | (simp at *; omega)) _ | with_reducible refine Below.setCell ?_ (by first | omega | (simp; done) | (simp; omega) | (simp at *; omega)) _ | with_reducible refine Below.trans ?_ (Below.mono (by assumption) (by first | omega | (simp; done) | (simp; omega) | (simp at *; omega)))))⟩
        · simp only [sel, if_true]
          go_wp2_with fail
          go_roundw
          case rel => exact ⟨k + 1, (a.1, l[k].2), by omega, by go_num, (by repeat (first | with_reducible exact Below.refl _ _ | with_reducible assumption | with_reducible refine Below.drew ?_ | with_reducible refine below_drawn ?_ | with_reducible refine Below.alloc ?_ (by first | omega | (simp; done) | (simp; omega) | (simp at *; omega)) _ | with_reducible refine Below.setCell ?_ (by first | omega | (simp; done) | (simp; omega) | (simp at *; omega)) _ | with_reducible refine Below.trans ?_ (Below.mono (by assumption) (by first | omega | (simp; done) | (simp; omega) | (simp at *; omega))))), by simp; omega, by go_simp, by go_simp, by go_simp, by go_simp, ⟨fun h => by omega, fun _ => by rw [hst.out.2 (by omega), sGo_step a l k hlt, if_pos hj]⟩⟩
          case measure => simp [intOf]; omega
    · clear hr
      have hkl : (k : Int) = l.length := by omega
      have Hkl := Lib.hid hkl; clear hkl
      go_wp2_with fail
      (refine calls_name fun wa hwa => ?_; have wa_s0 : w.heap.size < wa.heap.size := (by rw [hwa]; first | omega | (simp; done) | (simp; omega)); have wa_c0 : wa.cell? ⟨w.heap.size, 0, none⟩ = some (.string a.1) := (by rw [hwa]; go_simp); have wa_c1 : wa.cell? ⟨w.heap.size, 1, none⟩ = some (.string a.2) := (by rw [hwa]; go_simp); have wa_b : Below w.heap.size w wa := (by rw [hwa]; exact (by repeat (first | with_reducible exact Below.refl _ _ | with_reducible assumption | with_reducible refine Below.drew ?_ | with_reducible refine below_drawn ?_ | with_reducible refine Below.alloc ?_ (by first | omega | (simp; done) | (simp; omega) | (simp at *; omega)) _ | with_reducible refine Below.setCell ?_ (by first | omega | (simp; done) | (simp; omega) | (simp at *; omega)) _ | with_reducible refine Below.trans ?_ (Below.mono (by assumption) (by first | omega | (simp; done) | (simp; omega) | (simp at *; omega)))))); clear hwa)
      refine (span_is a.1 a.2 _).mono ?_
      (rintro e w1 ⟨rfl, w1_h⟩; obtain ⟨w1_hc, w1_hf⟩ := bcell w1_h; have w1_z := w1_h.size; have w1_b := wa_b.trans (w1_h.mono (by have := wa_b.size; omega)); have w1_le := w1_b.size; have w1_s0 : w.heap.size < w1.heap.size := (by omega); clear w1_h)
      go_wp2_with fail
      all_goals go_ret
      all_goals (refine ⟨?_, (by repeat (first | with_reducible exact Below.refl _ _ | with_reducible assumption | with_reducible refine Below.drew ?_ | with_reducible refine below_drawn ?_ | with_reducible refine Below.alloc ?_ (by first | omega | (simp; done) | (simp; omega) | (simp at *; omega)) _ | with_reducible refine Below.setCell ?_ (by first | omega | (simp; done) | (simp; omega) | (simp at *; omega)) _ | with_reducible refine Below.trans ?_ (Below.mono (by assumption) (by first | omega | (simp; done) | (simp; omega) | (simp at *; omega)))))⟩; rw [sAll_end hpos (hst.out.2 (by omega)) (by omega)]; simp [endB, *])

end Go.Proofs.Ytobnibdeimiinaa.O
