/- Contracts of All, of package span and of the reference. -/
import Derived.Test.YtkggjcfjehbbnaaW2
import Derived.Test.YtkggjcfjehbbnaaPlainTwo
namespace Go.Proofs.Ytkggjcfjehbbnaa
open Go.RowKit

theorem sGo_step (a : Sp) (l : List Sp) (k : Nat) (h : k < l.length) : sGo a (l.drop k) = if joinOk a.1 a.2 l[k].1 l[k].2 then sGo (a.1, l[k].2) (l.drop (k + 1)) else none := by
  rw [List.drop_eq_getElem_cons h]; rfl
theorem sAll_none {l : List Sp} {a : Sp} {k : Nat} (hl : 0 < l.length) (hs : sGo l[0] l.tail = sGo a (l.drop k)) (h : k < l.length) (hj : joinOk a.1 a.2 l[k].1 l[k].2 = false) : sAll l = false := by
  rw [sGo_step a l k h, hj] at hs
  cases l with
  | nil => simp at hl
  | cons s r => simp only [List.getElem_cons_zero, List.tail_cons] at hs; simp [sAll, hs]
theorem sAll_end {l : List Sp} {a : Sp} {k : Nat} (hl : 0 < l.length) (hs : sGo l[0] l.tail = sGo a (l.drop k)) (h : l.length ≤ k) : sAll l = endB a := by
  rw [List.drop_eq_nil_of_le h] at hs
  cases l with
  | nil => simp at hl
  | cons s r => simp only [List.getElem_cons_zero, List.tail_cons, sGo] at hs; simp [sAll, hs]

set_option maxHeartbeats 4000000 in
theorem span_all_some (b off cap : Nat) (l : List Sp) (w : World) (hl : l.length ≤ 9223372036854775807) (hr : SpanRow w b off l) (hpos : 0 < l.length) (hb : b < w.heap.size) :
    Calls Try.prog 21 #[.slice (some ⟨b, off, none⟩) l.length cap] w fun e w' => e = .returned (.bool (sAll l)) ∧ Below w.heap.size w w' := by
  go_enter Try.func21, Try.ntmps21
  go_wp2
  go_loopw [10] (fun i wr => ∃ (k : Nat) (a : Sp), k ≤ l.length ∧ i = .int .i64 k ∧ Below w.heap.size w wr ∧ w.heap.size < wr.heap.size ∧ wr.cell? ⟨w.heap.size, 0, none⟩ = some (.string a.1) ∧ wr.cell? ⟨w.heap.size, 1, none⟩ = some (.string a.2) ∧ wr.frozen? ⟨w.heap.size, 0, none⟩ = false ∧ wr.frozen? ⟨w.heap.size, 1, none⟩ = false ∧ Hid ((k = 0 → a = (⟨#[]⟩, ⟨#[]⟩)) ∧ (1 ≤ k → sGo l[0] l.tail = sGo a (l.drop k)))) (fun i _ => l.length - (intOf i).toNat)
  case atStart => exact ⟨0, (⟨#[]⟩, ⟨#[]⟩), Nat.zero_le _, rfl, (by repeat (first | with_reducible exact Below.refl _ _ | with_reducible assumption | with_reducible refine Below.drew ?_ | with_reducible refine below_drawn ?_ | with_reducible refine Below.alloc ?_ (by first | omega | (simp; done) | (simp; omega) | (simp at *; omega)) _ | with_reducible refine Below.setCell ?_ (by first | omega | (simp; done) | (simp; omega) | (simp at *; omega)) _ | with_reducible refine Below.trans ?_ (Below.mono (by assumption) (by first | omega | (simp; done) | (simp; omega) | (simp at *; omega))))), by simp, by simp [go_sem], by simp [go_sem], by simp [go_sem], by simp [go_sem], ⟨fun _ => rfl, fun h => by omega⟩⟩
  case round =>
    obtain ⟨k, a, hk, rfl, wr_b, hs, ha1, ha2, hf1, hf2, hst⟩ := hrel
    have Hr := Lib.hid hr
    by_cases hlt : k < l.length
    · have h1 : wr.cell? ⟨b, off + k * 2, none⟩ = some (.string l[k].1) := (wr_b.cell (p := ⟨b, off + k * 2, none⟩) hb).trans (hr k hlt).1
      have h2 : wr.cell? ⟨b, off + k * 2 + 1, none⟩ = some (.string l[k].2) := (wr_b.cell (p := ⟨b, off + k * 2 + 1, none⟩) hb).trans (hr k hlt).2
      clear hr
      by_cases h0 : k = 0
      · subst h0
        simp only [Nat.zero_mul, Nat.add_zero] at h1 h2
        go_wp2_with fail
        go_roundw
        case rel => exact ⟨1, l[0], by omega, by go_num, (by repeat (first | with_reducible exact Below.refl _ _ | with_reducible assumption | with_reducible refine Below.drew ?_ | with_reducible refine below_drawn ?_ | with_reducible refine Below.alloc ?_ (by first | omega | (simp; done) | (simp; omega) | (simp at *; omega)) _ | with_reducible refine Below.setCell ?_ (by first | omega | (simp; done) | (simp; omega) | (simp at *; omega)) _ | with_reducible refine Below.trans ?_ (Below.mono (by assumption) (by first | omega | (simp; done) | (simp; omega) | (simp at *; omega))))), by simp; omega, by go_simp, by go_simp, by go_simp, by go_simp, ⟨fun h => by omega, fun _ => by rw [List.drop_one]⟩⟩
        case measure => simp [intOf]; omega
      · have hk0 : ((k : Int) == 0) = false := by simp; omega
        go_wp2_with fail
        (refine calls_name fun wa hwa => ?_; have wa_s0 : w.heap.size < wa.heap.size := (by rw [hwa]; first | omega | (simp; done) | (simp; omega)); have wa_s1 : wr.heap.size < wa.heap.size := (by rw [hwa]; first | omega | (simp; done) | (simp; omega)); have wa_c0 : wa.cell? ⟨w.heap.size, 0, none⟩ = some (.string a.1) := (by rw [hwa]; go_simp); have wa_f0 : wa.frozen? ⟨w.heap.size, 0, none⟩ = false := (by rw [hwa]; go_simp); have wa_c1 : wa.cell? ⟨w.heap.size, 1, none⟩ = some (.string a.2) := (by rw [hwa]; go_simp); have wa_f1 : wa.frozen? ⟨w.heap.size, 1, none⟩ = false := (by rw [hwa]; go_simp); have wa_c2 : wa.cell? ⟨wr.heap.size, 0, none⟩ = some (.string l[k].1) := (by rw [hwa]; go_simp); have wa_c3 : wa.cell? ⟨wr.heap.size, 1, none⟩ = some (.string l[k].2) := (by rw [hwa]; go_simp); have wa_b : Below w.heap.size w wa := (by rw [hwa]; exact (by repeat (first | with_reducible exact Below.refl _ _ | with_reducible assumption | with_reducible refine Below.drew ?_ | with_reducible refine below_drawn ?_ | with_reducible refine Below.alloc ?_ (by first | omega | (simp; done) | (simp; omega) | (simp at *; omega)) _ | with_reducible refine Below.setCell ?_ (by first | omega | (simp; done) | (simp; omega) | (simp at *; omega)) _ | with_reducible refine Below.trans ?_ (Below.mono (by assumption) (by first | omega | (simp; done) | (simp; omega) | (simp at *; omega)))))); clear hwa)
        refine (span_join a.1 a.2 l[k].1 l[k].2 _).mono ?_
        (rintro e w1 ⟨rfl, w1_h⟩; obtain ⟨w1_hc, w1_hf⟩ := bcell w1_h; have w1_z := w1_h.size; have w1_b := wa_b.trans (w1_h.mono (by have := wa_b.size; omega)); have w1_le := w1_b.size; have w1_s0 : w.heap.size < w1.heap.size := (by omega); have w1_s1 : wr.heap.size < w1.heap.size := (by omega); clear w1_h)
        cases hj : joinOk a.1 a.2 l[k].1 l[k].2
        · simp only [sel]
          go_wp2_with fail
          go_ret
          exact ⟨by rw [sAll_none hpos (hst.out.2 (by omega)) hlt hj]; rfl, (by repeat (first | with_reducible exact Below.refl _ _ | with_reducible assumption | with_reducible refine Below.drew ?_ | with_reducible refine below_drawn ?_ | with_reducible refine Below.alloc ?_ (by first | omega | (simp; done) | (simp; omega) | (simp at *; omega)) _ | with_reducible refine Below.setCell ?_ (by first | omega | (simp; done) | (simp; omega) | (simp at *; omega)) _ | with_reducible refine Below.trans ?_ (Below.mono (by assumption) (by first | omega | (simp; done) | (simp; omega) | (simp at *; omega)))))⟩
        · simp only [sel, if_true]
          go_wp2_with fail
          go_roundw
          case rel => exact ⟨k + 1, (a.1, l[k].2), by omega, by go_num, (by repeat (first | with_reducible exact Below.refl _ _ | with_reducible assumption | with_reducible refine Below.drew ?_ | with_reducible refine below_drawn ?_ | with_reducible refine Below.alloc ?_ (by first | omega | (simp; done) | (simp; omega) | (simp at *; omega)) _ | with_reducible refine Below.setCell ?_ (by first | omega | (simp; done) | (simp; omega) | (simp at *; omega)) _ | with_reducible refine Below.trans ?_ (Below.mono (by assumption) (by first | omega | (simp; done) | (simp; omega) | (simp at *; omega))))), by simp; omega, by go_simp, by go_simp, by go_simp, by go_simp, ⟨fun h => by omega, fun _ => by rw [hst.out.2 (by omega), sGo_step a l k hlt, if_pos hj]⟩⟩
          case measure => simp [intOf]; omega
    · clear hr
      have hkl : (k : Int) = l.length := by omega
      have Hkl := Lib.hid hkl; clear hkl
      go_wp2_with fail
      (refine calls_name fun wa hwa => ?_; have wa_s0 : w.heap.size < wa.heap.size := (by rw [hwa]; first | omega | (simp; done) | (simp; omega)); have wa_c0 : wa.cell? ⟨w.heap.size, 0, none⟩ = some (.string a.1) := (by rw [hwa]; go_simp); have wa_c1 : wa.cell? ⟨w.heap.size, 1, none⟩ = some (.string a.2) := (by rw [hwa]; go_simp); have wa_b : Below w.heap.size w wa := (by rw [hwa]; exact (by repeat (first | with_reducible exact Below.refl _ _ | with_reducible assumption | with_reducible refine Below.drew ?_ | with_reducible refine below_drawn ?_ | with_reducible refine Below.alloc ?_ (by first | omega | (simp; done) | (simp; omega) | (simp at *; omega)) _ | with_reducible refine Below.setCell ?_ (by first | omega | (simp; done) | (simp; omega) | (simp at *; omega)) _ | with_reducible refine Below.trans ?_ (Below.mono (by assumption) (by first | omega | (simp; done) | (simp; omega) | (simp at *; omega)))))); clear hwa)
      refine (span_is a.1 a.2 _).mono ?_
      (rintro e w1 ⟨rfl, w1_h⟩; obtain ⟨w1_hc, w1_hf⟩ := bcell w1_h; have w1_z := w1_h.size; have w1_b := wa_b.trans (w1_h.mono (by have := wa_b.size; omega)); have w1_le := w1_b.size; have w1_s0 : w.heap.size < w1.heap.size := (by omega); clear w1_h)
      go_wp2_with fail
      all_goals go_ret
      all_goals (refine ⟨?_, (by repeat (first | with_reducible exact Below.refl _ _ | with_reducible assumption | with_reducible refine Below.drew ?_ | with_reducible refine below_drawn ?_ | with_reducible refine Below.alloc ?_ (by first | omega | (simp; done) | (simp; omega) | (simp at *; omega)) _ | with_reducible refine Below.setCell ?_ (by first | omega | (simp; done) | (simp; omega) | (simp at *; omega)) _ | with_reducible refine Below.trans ?_ (Below.mono (by assumption) (by first | omega | (simp; done) | (simp; omega) | (simp at *; omega)))))⟩; rw [sAll_end hpos (hst.out.2 (by omega)) (by omega)]; simp [endB, *])

theorem span_all_none (ao : Option Addr) (cap : Nat) (w : World) :
    Calls Try.prog 21 #[.slice ao 0 cap] w fun e w' => e = .returned (.bool false) ∧ Below w.heap.size w w' := by
  go_enter Try.func21, Try.ntmps21
  go_wp2
  refine wp_loop_rounds 1 ?_
  rw [rounds_succ]
  go_wp2
  go_ret
  exact ⟨rfl, (by repeat (first | with_reducible exact Below.refl _ _ | with_reducible assumption | with_reducible refine Below.drew ?_ | with_reducible refine below_drawn ?_ | with_reducible refine Below.alloc ?_ (by first | omega | (simp; done) | (simp; omega) | (simp at *; omega)) _ | with_reducible refine Below.setCell ?_ (by first | omega | (simp; done) | (simp; omega) | (simp at *; omega)) _ | with_reducible refine Below.trans ?_ (Below.mono (by assumption) (by first | omega | (simp; done) | (simp; omega) | (simp at *; omega)))))⟩
theorem ref_all_none (ao : Option Addr) (cap : Nat) (w : World) :
    Calls Try.prog 22 #[.slice ao 0 cap] w fun e w' => e = .returned (.bool false) ∧ Below w.heap.size w w' := by
  go_enter Try.func22, Try.ntmps22
  go_wp2
  refine wp_loop_rounds 1 ?_
  rw [rounds_succ]
  go_wp2
  go_ret
  exact ⟨rfl, (by repeat (first | with_reducible exact Below.refl _ _ | with_reducible assumption | with_reducible refine Below.drew ?_ | with_reducible refine below_drawn ?_ | with_reducible refine Below.alloc ?_ (by first | omega | (simp; done) | (simp; omega) | (simp at *; omega)) _ | with_reducible refine Below.setCell ?_ (by first | omega | (simp; done) | (simp; omega) | (simp at *; omega)) _ | with_reducible refine Below.trans ?_ (Below.mono (by assumption) (by first | omega | (simp; done) | (simp; omega) | (simp at *; omega)))))⟩
theorem heavy_none (ao : Option Addr) (cap : Nat) (w : World) :
    Calls Try.prog 9 #[.slice ao 0 cap] w fun e w' => e = .returned (.bool false) ∧ w = w' := by
  go_enter Try.func9, Try.ntmps9
  go_wp2
  refine wp_loop_rounds 1 ?_
  rw [rounds_succ]
  go_wp2
  go_ret
  exact ⟨rfl, rfl⟩

/-- After k rounds of the reference's loop without an answer: 'at' is e, and all hangs on the rest. -/
def RSt (l : List Sp) (k : Nat) (e : List UInt8) : Prop := (k = 0 → e = []) ∧ (1 ≤ k → rAll l = finR (rGo e (l.drop k)))
theorem RSt_zero (l : List Sp) : RSt l 0 [] := ⟨fun _ => rfl, fun h => by omega⟩
theorem RSt_first {l : List Sp} (h : 0 < l.length) (hi : isB l[0].1 l[0].2 = true) (hf : l[0].1.toList = []) : RSt l 1 l[0].2.toList := by
  refine ⟨fun h => by omega, fun _ => ?_⟩
  cases l with
  | nil => simp at h
  | cons s r => simp only [List.getElem_cons_zero] at hi hf; simp [rAll, hi, hf]
theorem rAll_first {l : List Sp} (h : 0 < l.length) (hb : isB l[0].1 l[0].2 = false ∨ l[0].1.toList ≠ []) : rAll l = false := by
  cases l with
  | nil => simp at h
  | cons s r => simp only [List.getElem_cons_zero] at hb; rcases hb with hb | hb <;> simp [rAll, hb]
theorem rGo_step (e : List UInt8) (l : List Sp) (k : Nat) (h : k < l.length) : rGo e (l.drop k) = if isB l[k].1 l[k].2 && (l[k].1.toList == e) && !e.isEmpty then rGo l[k].2.toList (l.drop (k + 1)) else none := by
  rw [List.drop_eq_getElem_cons h]; rfl
theorem RSt_next {l : List Sp} {k : Nat} {e : List UInt8} (h : k < l.length) (h1 : 1 ≤ k) (hs : RSt l k e) (hi : isB l[k].1 l[k].2 = true) (hf : l[k].1.toList = e) (he : e ≠ []) : RSt l (k + 1) l[k].2.toList :=
  ⟨fun h => by omega, fun _ => by rw [hs.2 h1, rGo_step e l k h, if_pos (by simp [hi, hf, he])]⟩
theorem rAll_bad {l : List Sp} {k : Nat} {e : List UInt8} (h : k < l.length) (h1 : 1 ≤ k) (hs : RSt l k e) (hb : isB l[k].1 l[k].2 = false ∨ l[k].1.toList ≠ e ∨ e = []) : rAll l = false := by
  rw [hs.2 h1, rGo_step e l k h, if_neg]
  · rfl
  · rcases hb with hb | hb | hb <;> simp [hb]
theorem rAll_end {l : List Sp} {k : Nat} {e : List UInt8} (h : l.length ≤ k) (h1 : 1 ≤ k) (hs : RSt l k e) : rAll l = e.isEmpty := by
  rw [hs.2 h1, List.drop_eq_nil_of_le h]; rfl

set_option maxHeartbeats 4000000 in
theorem ref_all_some (b off cap : Nat) (l : List Sp) (w : World) (hl : l.length ≤ 9223372036854775807) (hr : SpanRow w b off l) (hpos : 0 < l.length) (hb : b < w.heap.size) :
    Calls Try.prog 22 #[.slice (some ⟨b, off, none⟩) l.length cap] w fun e w' => e = .returned (.bool (rAll l)) ∧ Below w.heap.size w w' := by
  go_enter Try.func22, Try.ntmps22
  go_wp2
  go_loopw [3, 4] (fun s i wr => ∃ (k : Nat) (e : ByteArray), k ≤ l.length ∧ i = .int .i64 k ∧ s = .string e ∧ Below w.heap.size w wr ∧ Hid (RSt l k e.toList)) (fun _ i _ => l.length - (intOf i).toNat)
  case atStart => exact ⟨0, ⟨#[]⟩, Nat.zero_le _, rfl, rfl, (by repeat (first | with_reducible exact Below.refl _ _ | with_reducible assumption | with_reducible refine Below.drew ?_ | with_reducible refine below_drawn ?_ | with_reducible refine Below.alloc ?_ (by first | omega | (simp; done) | (simp; omega) | (simp at *; omega)) _ | with_reducible refine Below.setCell ?_ (by first | omega | (simp; done) | (simp; omega) | (simp at *; omega)) _ | with_reducible refine Below.trans ?_ (Below.mono (by assumption) (by first | omega | (simp; done) | (simp; omega) | (simp at *; omega))))), by have := RSt_zero l; simpa [Hid] using this⟩
  case round =>
    obtain ⟨k, e, hk, rfl, rfl, wr_b, hst⟩ := hrel
    by_cases hlt : k < l.length
    · have h1 : wr.cell? ⟨b, off + k * 2, none⟩ = some (.string l[k].1) := (wr_b.cell (p := ⟨b, off + k * 2, none⟩) hb).trans (hr k hlt).1
      have h2 : wr.cell? ⟨b, off + k * 2 + 1, none⟩ = some (.string l[k].2) := (wr_b.cell (p := ⟨b, off + k * 2 + 1, none⟩) hb).trans (hr k hlt).2
      clear hr
      cases hi : isB l[k].1 l[k].2 <;> have Hi := Lib.hid hi <;> clear hi
      · go_wp2_with fail
        refine (satrapyref12_is l[k].1 l[k].2 _).mono ?_
        rw [Hi.out]
        rintro e1 w1 ⟨rfl, w1_h⟩
        go_wp2_with fail
        go_ret
        refine ⟨?_, wr_b.trans (w1_h.mono wr_b.size)⟩
        by_cases h0 : k = 0
        · subst h0; rw [rAll_first hpos (.inl Hi.out)]; rfl
        · rw [rAll_bad hlt (by omega) hst.out (.inl Hi.out)]; rfl
      · go_wp2_with fail
        refine (satrapyref12_is l[k].1 l[k].2 _).mono ?_
        rw [Hi.out]
        rintro e1 w1 ⟨rfl, w1_h⟩
        obtain ⟨w1_hc, w1_hf⟩ := bcell w1_h
        have hbw : b < wr.heap.size := Nat.lt_of_lt_of_le hb wr_b.size
        have w1_b := wr_b.trans (w1_h.mono wr_b.size)
        clear w1_h
        go_wp2_with fail
        · go_ret
          exact ⟨by rw [rAll_bad hlt (by omega) hst.out (.inr (.inr (by simpa using ‹e.toList.isEmpty = true›)))]; rfl, w1_b⟩
        · go_roundw
          case rel => exact ⟨k + 1, l[k].2, by omega, by go_num, rfl, w1_b, RSt_next hlt (by omega) hst.out Hi.out ‹_› (by simpa using ‹e.toList.isEmpty = false›)⟩
          case measure => simp [intOf]; omega
        · obtain rfl : k = 0 := by omega
          go_roundw
          case rel => exact ⟨1, l[0].2, by omega, by go_num, rfl, w1_b, RSt_first hlt Hi.out (by rw [‹l[0].1.toList = e.toList›]; exact hst.out.1 rfl)⟩
          case measure => simp [intOf]; omega
        · go_ret
          refine ⟨?_, w1_b⟩
          by_cases h0 : k = 0
          · subst h0; rw [rAll_first hpos (.inr (by rw [← hst.out.1 rfl]; assumption))]; rfl
          · rw [rAll_bad hlt (by omega) hst.out (.inr (.inl ‹_›))]; rfl
    · clear hr
      have hkl : (k : Int) = l.length := by omega
      have Hkl := Lib.hid hkl; clear hkl
      go_wp2_with fail
      go_ret
      refine ⟨?_, (by repeat (first | with_reducible exact Below.refl _ _ | with_reducible assumption | with_reducible refine Below.drew ?_ | with_reducible refine below_drawn ?_ | with_reducible refine Below.alloc ?_ (by first | omega | (simp; done) | (simp; omega) | (simp at *; omega)) _ | with_reducible refine Below.setCell ?_ (by first | omega | (simp; done) | (simp; omega) | (simp at *; omega)) _ | with_reducible refine Below.trans ?_ (Below.mono (by assumption) (by first | omega | (simp; done) | (simp; omega) | (simp at *; omega)))))⟩
      rw [rAll_end (by omega) (by omega) hst.out]; simp; try omega
end Go.Proofs.Ytkggjcfjehbbnaa
