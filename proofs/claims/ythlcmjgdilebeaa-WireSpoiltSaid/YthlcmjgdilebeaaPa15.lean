/- Texts put together: RAl, Jn, OSa. -/
import Derived.Test.YthlcmjgdilebeaaPa01
import Derived.Test.YthlcmjgdilebeaaPa08
namespace Go.Proofs.Ythlcmjgdilebeaa
open Go.RowKit

def SpanRow (w : World) (b off : Nat) (l : List (ByteArray × ByteArray)) : Prop :=
  ∀ i, (h : i < l.length) → w.cell? ⟨b, off + i * 2, none⟩ = some (.string l[i].1) ∧ w.cell? ⟨b, off + i * 2 + 1, none⟩ = some (.string l[i].2)

set_option maxHeartbeats 4000000 in
theorem ref_all_none (ao : Option Addr) (cap : Nat) (w : World) :
    Calls Try.prog 47 #[.slice ao 0 cap] w fun e w' => e = .returned (.bool false) ∧ Below w.heap.size w w' := by
  go_enter Try.func47, Try.ntmps47
  go_wp2
  refine wp_loop_rounds 1 ?_
  rw [rounds_succ]
  go_wp2
  go_ret
  exact ⟨rfl, bg⟩
/-- After k rounds of the reference's loop without an answer: 'at' is e, and all hangs on the rest. -/
def RSt (l : List Sp) (k : Nat) (e : List UInt8) : Prop := (k = 0 → e = []) ∧ (1 ≤ k → rAll l = finR (rGo e (l.drop k)))
theorem RSt_zero (l : List Sp) : RSt l 0 [] := ⟨fun _ => rfl, fun h => by omega⟩
theorem RSt_first {l : List Sp} (h : 0 < l.length) (hi : isB l[0].1 l[0].2 = true) (hf : l[0].1.toList = []) : RSt l 1 l[0].2.toList := by
  refine ⟨fun h => by omega, fun _ => ?_⟩
  cases l with
  | nil => simp at h
  | cons s r => simp only [List.getElem_cons_zero] at hi hf; simp [rAll, hi, hf]
theorem rAll_first {l : List Sp} (h : 0 < l.length) (hb : isB l[0].1 l[0].2 = false ∨ l[0].1.toList ≠ []) : rAll l = false := by
  cases l with
  | nil => simp at h
  | cons s r => simp only [List.getElem_cons_zero] at hb; rcases hb with hb | hb <;> simp [rAll, hb]
theorem rGo_step (e : List UInt8) (l : List Sp) (k : Nat) (h : k < l.length) : rGo e (l.drop k) = if isB l[k].1 l[k].2 && (l[k].1.toList == e) && !e.isEmpty then rGo l[k].2.toList (l.drop (k + 1)) else none := by
  rw [List.drop_eq_getElem_cons h]; rfl
theorem RSt_next {l : List Sp} {k : Nat} {e : List UInt8} (h : k < l.length) (h1 : 1 ≤ k) (hs : RSt l k e) (hi : isB l[k].1 l[k].2 = true) (hf : l[k].1.toList = e) (he : e ≠ []) : RSt l (k + 1) l[k].2.toList :=
  ⟨fun h => by omega, fun _ => by rw [hs.2 h1, rGo_step e l k h, if_pos (by simp [hi, hf, he])]⟩
theorem rAll_bad {l : List Sp} {k : Nat} {e : List UInt8} (h : k < l.length) (h1 : 1 ≤ k) (hs : RSt l k e) (hb : isB l[k].1 l[k].2 = false ∨ l[k].1.toList ≠ e ∨ e = []) : rAll l = false := by
  rw [hs.2 h1, rGo_step e l k h, if_neg]
  · rfl
  · rcases hb with hb | hb | hb <;> simp [hb]
theorem rAll_end {l : List Sp} {k : Nat} {e : List UInt8} (h : l.length ≤ k) (h1 : 1 ≤ k) (hs : RSt l k e) : rAll l = e.isEmpty := by
  rw [hs.2 h1, List.drop_eq_nil_of_le h]; rfl

set_option maxHeartbeats 4000000 in
theorem ref_all_some (b off cap : Nat) (l : List Sp) (w : World) (hl : l.length ≤ 9223372036854775807) (hr : SpanRow w b off l) (hpos : 0 < l.length) (hb : b < w.heap.size) :
    Calls Try.prog 47 #[.slice (some ⟨b, off, none⟩) l.length cap] w fun e w' => e = .returned (.bool (rAll l)) ∧ Below w.heap.size w w' := by
  go_enter Try.func47, Try.ntmps47
  go_wp2
  go_loopw [3, 4] (fun s i wr => ∃ (k : Nat) (e : ByteArray), k ≤ l.length ∧ i = .int .i64 k ∧ s = .string e ∧ Below w.heap.size w wr ∧ Hid (RSt l k e.toList)) (fun _ i _ => l.length - (intOf i).toNat)
  case atStart => exact ⟨0, ⟨#[]⟩, Nat.zero_le _, rfl, rfl, bg, by have := RSt_zero l; simpa [Hid] using this⟩
  case round =>
    obtain ⟨k, e, hk, rfl, rfl, wr_b, hst⟩ := hrel
    by_cases hlt : k < l.length
    · have h1 : wr.cell? ⟨b, off + k * 2, none⟩ = some (.string l[k].1) := (wr_b.cell (p := ⟨b, off + k * 2, none⟩) hb).trans (hr k hlt).1
      have h2 : wr.cell? ⟨b, off + k * 2 + 1, none⟩ = some (.string l[k].2) := (wr_b.cell (p := ⟨b, off + k * 2 + 1, none⟩) hb).trans (hr k hlt).2
      clear hr
      cases hi : isB l[k].1 l[k].2 <;> have Hi := Lib.hid hi <;> clear hi
      · go_wp2_with fail
        refine (satrapyref12_is l[k].1 l[k].2 _).mono ?_
        rw [Hi.out]
        rintro e1 w1 ⟨rfl, w1_h⟩
        go_wp2_with fail
        go_ret
        refine ⟨?_, wr_b.trans (w1_h.mono wr_b.size)⟩
        by_cases h0 : k = 0
        · subst h0; rw [rAll_first hpos (.inl Hi.out)]; rfl
        · rw [rAll_bad hlt (by omega) hst.out (.inl Hi.out)]; rfl
      · go_wp2_with fail
        refine (satrapyref12_is l[k].1 l[k].2 _).mono ?_
        rw [Hi.out]
        rintro e1 w1 ⟨rfl, w1_h⟩
        obtain ⟨w1_hc, w1_hf⟩ := bcell w1_h
        have hbw : b < wr.heap.size := Nat.lt_of_lt_of_le hb wr_b.size
        have w1_b := wr_b.trans (w1_h.mono wr_b.size)
        clear w1_h
        go_wp2_with fail
        · go_ret
          exact ⟨by rw [rAll_bad hlt (by omega) hst.out (.inr (.inr (by simpa using ‹e.toList.isEmpty = true›)))]; rfl, w1_b⟩
        · go_roundw
          case rel => exact ⟨k + 1, l[k].2, by omega, by go_num, rfl, w1_b, RSt_next hlt (by omega) hst.out Hi.out ‹_› (by simpa using ‹e.toList.isEmpty = false›)⟩
          case measure => simp [intOf]; omega
        · obtain rfl : k = 0 := by omega
          go_roundw
          case rel => exact ⟨1, l[0].2, by omega, by go_num, rfl, w1_b, RSt_first hlt Hi.out (by rw [‹l[0].1.toList = e.toList›]; exact hst.out.1 rfl)⟩
          case measure => simp [intOf]; omega
        · go_ret
          refine ⟨?_, w1_b⟩
          by_cases h0 : k = 0
          · subst h0; rw [rAll_first hpos (.inr (by rw [← hst.out.1 rfl]; assumption))]; rfl
          · rw [rAll_bad hlt (by omega) hst.out (.inr (.inl ‹_›))]; rfl
    · clear hr
      have hkl : (k : Int) = l.length := by omega
      have Hkl := Lib.hid hkl; clear hkl
      go_wp2_with fail
      go_ret
      refine ⟨?_, bg⟩
      rw [rAll_end (by omega) (by omega) hst.out]; simp; try omega
end Go.Proofs.Ythlcmjgdilebeaa

namespace Go.Proofs.Ythlcmjgdilebeaa
open Go.RowKit
set_option maxHeartbeats 1000000 in
theorem span_join (f t f' t' : ByteArray) (w : World) :
    Calls Try.prog 99 #[.agg #[.string f, .string t], .agg #[.string f', .string t']] w fun e w' => e = .returned (.tuple #[.agg #[.string (sel (joinOk f t f' t') f), .string (sel (joinOk f t f' t') t')], .bool (joinOk f t f' t')]) ∧ Below w.heap.size w w' := by
  cases h1 : isB f t <;> have H1 := Lib.hid h1 <;> clear h1
  · go_enter Try.func99, Try.ntmps99
    go_wp2_with fail
    (refine calls_name fun wa hwa => ?_; have wa_s0 : w.heap.size < wa.heap.size := szg hwa; have wa_s1 : w.heap.size + 1 < wa.heap.size := szg hwa; have wa_s2 : w.heap.size + 2 < wa.heap.size := szg hwa; have wa_c0 : wa.cell? ⟨w.heap.size, 0, none⟩ = some (.string f) := cg hwa; have wa_c1 : wa.cell? ⟨w.heap.size, 1, none⟩ = some (.string t) := cg hwa; have wa_c2 : wa.cell? ⟨w.heap.size + 1, 0, none⟩ = some (.string f') := cg hwa; have wa_c3 : wa.cell? ⟨w.heap.size + 1, 1, none⟩ = some (.string t') := cg hwa; have wa_c4 : wa.cell? ⟨w.heap.size + 2, 0, none⟩ = some (.string ⟨#[]⟩) := cg hwa; have wa_f4 : wa.frozen? ⟨w.heap.size + 2, 0, none⟩ = false := fg hwa; have wa_c5 : wa.cell? ⟨w.heap.size + 2, 1, none⟩ = some (.string ⟨#[]⟩) := cg hwa; have wa_f5 : wa.frozen? ⟨w.heap.size + 2, 1, none⟩ = false := fg hwa; have wa_b : Below w.heap.size w wa := (by rw [hwa]; exact bg); clear hwa)
    refine (span_is _ _ _).mono ?_
    rw [H1.out]
    (rintro e w1 ⟨rfl, w1_h⟩; obtain ⟨w1_hc, w1_hf⟩ := bcell w1_h; have w1_z := w1_h.size; have w1_b := wa_b.trans (w1_h.mono (by have := wa_b.size; omega)); have w1_le := w1_b.size; have w1_s0 : w.heap.size < w1.heap.size := (by omega); have w1_s1 : w.heap.size + 1 < w1.heap.size := (by omega); have w1_s2 : w.heap.size + 2 < w1.heap.size := (by omega); clear w1_h)
    go_wp2_with fail
    refine bodyPost_ret (v := .tuple #[.agg #[.string ⟨#[]⟩, .string ⟨#[]⟩], .bool false]) (by simp [results, Try.results99, go_sem, *]) rfl ⟨?_, bg⟩
    simp [joinOk, sel, H1.out]
  · cases h2 : isB f' t' <;> have H2 := Lib.hid h2 <;> clear h2
    · go_enter Try.func99, Try.ntmps99
      go_wp2_with fail
      (refine calls_name fun wa hwa => ?_; have wa_s0 : w.heap.size < wa.heap.size := szg hwa; have wa_s1 : w.heap.size + 1 < wa.heap.size := szg hwa; have wa_s2 : w.heap.size + 2 < wa.heap.size := szg hwa; have wa_c0 : wa.cell? ⟨w.heap.size, 0, none⟩ = some (.string f) := cg hwa; have wa_c1 : wa.cell? ⟨w.heap.size, 1, none⟩ = some (.string t) := cg hwa; have wa_c2 : wa.cell? ⟨w.heap.size + 1, 0, none⟩ = some (.string f') := cg hwa; have wa_c3 : wa.cell? ⟨w.heap.size + 1, 1, none⟩ = some (.string t') := cg hwa; have wa_c4 : wa.cell? ⟨w.heap.size + 2, 0, none⟩ = some (.string ⟨#[]⟩) := cg hwa; have wa_f4 : wa.frozen? ⟨w.heap.size + 2, 0, none⟩ = false := fg hwa; have wa_c5 : wa.cell? ⟨w.heap.size + 2, 1, none⟩ = some (.string ⟨#[]⟩) := cg hwa; have wa_f5 : wa.frozen? ⟨w.heap.size + 2, 1, none⟩ = false := fg hwa; have wa_b : Below w.heap.size w wa := (by rw [hwa]; exact bg); clear hwa)
      refine (span_is _ _ _).mono ?_
      rw [H1.out]
      (rintro e w1 ⟨rfl, w1_h⟩; obtain ⟨w1_hc, w1_hf⟩ := bcell w1_h; have w1_z := w1_h.size; have w1_b := wa_b.trans (w1_h.mono (by have := wa_b.size; omega)); have w1_le := w1_b.size; have w1_s0 : w.heap.size < w1.heap.size := (by omega); have w1_s1 : w.heap.size + 1 < w1.heap.size := (by omega); have w1_s2 : w.heap.size + 2 < w1.heap.size := (by omega); clear w1_h)
      go_wp2_with fail
      (refine calls_name fun wb hwb => ?_; have wb_s0 : w.heap.size < wb.heap.size := szg hwb; have wb_s1 : w.heap.size + 1 < wb.heap.size := szg hwb; have wb_s2 : w.heap.size + 2 < wb.heap.size := szg hwb; have wb_c0 : wb.cell? ⟨w.heap.size, 0, none⟩ = some (.string f) := cg hwb; have wb_c1 : wb.cell? ⟨w.heap.size, 1, none⟩ = some (.string t) := cg hwb; have wb_c2 : wb.cell? ⟨w.heap.size + 1, 0, none⟩ = some (.string f') := cg hwb; have wb_c3 : wb.cell? ⟨w.heap.size + 1, 1, none⟩ = some (.string t') := cg hwb; have wb_c4 : wb.cell? ⟨w.heap.size + 2, 0, none⟩ = some (.string ⟨#[]⟩) := cg hwb; have wb_f4 : wb.frozen? ⟨w.heap.size + 2, 0, none⟩ = false := fg hwb; have wb_c5 : wb.cell? ⟨w.heap.size + 2, 1, none⟩ = some (.string ⟨#[]⟩) := cg hwb; have wb_f5 : wb.frozen? ⟨w.heap.size + 2, 1, none⟩ = false := fg hwb; have wb_b : Below w.heap.size w wb := (by rw [hwb]; exact bg); clear hwb)
      refine (span_is _ _ _).mono ?_
      rw [H2.out]
      (rintro e w2 ⟨rfl, w2_h⟩; obtain ⟨w2_hc, w2_hf⟩ := bcell w2_h; have w2_z := w2_h.size; have w2_b := wb_b.trans (w2_h.mono (by have := wb_b.size; omega)); have w2_le := w2_b.size; have w2_s0 : w.heap.size < w2.heap.size := (by omega); have w2_s1 : w.heap.size + 1 < w2.heap.size := (by omega); have w2_s2 : w.heap.size + 2 < w2.heap.size := (by omega); clear w2_h)
      go_wp2_with fail
      refine bodyPost_ret (v := .tuple #[.agg #[.string ⟨#[]⟩, .string ⟨#[]⟩], .bool false]) (by simp [results, Try.results99, go_sem, *]) rfl ⟨?_, bg⟩
      simp [joinOk, sel, H2.out]
    · go_enter Try.func99, Try.ntmps99
      go_wp2_with fail
      (refine calls_name fun wa hwa => ?_; have wa_s0 : w.heap.size < wa.heap.size := szg hwa; have wa_s1 : w.heap.size + 1 < wa.heap.size := szg hwa; have wa_s2 : w.heap.size + 2 < wa.heap.size := szg hwa; have wa_c0 : wa.cell? ⟨w.heap.size, 0, none⟩ = some (.string f) := cg hwa; have wa_c1 : wa.cell? ⟨w.heap.size, 1, none⟩ = some (.string t) := cg hwa; have wa_c2 : wa.cell? ⟨w.heap.size + 1, 0, none⟩ = some (.string f') := cg hwa; have wa_c3 : wa.cell? ⟨w.heap.size + 1, 1, none⟩ = some (.string t') := cg hwa; have wa_c4 : wa.cell? ⟨w.heap.size + 2, 0, none⟩ = some (.string ⟨#[]⟩) := cg hwa; have wa_f4 : wa.frozen? ⟨w.heap.size + 2, 0, none⟩ = false := fg hwa; have wa_c5 : wa.cell? ⟨w.heap.size + 2, 1, none⟩ = some (.string ⟨#[]⟩) := cg hwa; have wa_f5 : wa.frozen? ⟨w.heap.size + 2, 1, none⟩ = false := fg hwa; have wa_b : Below w.heap.size w wa := (by rw [hwa]; exact bg); clear hwa)
      refine (span_is _ _ _).mono ?_
      rw [H1.out]
      (rintro e w1 ⟨rfl, w1_h⟩; obtain ⟨w1_hc, w1_hf⟩ := bcell w1_h; have w1_z := w1_h.size; have w1_b := wa_b.trans (w1_h.mono (by have := wa_b.size; omega)); have w1_le := w1_b.size; have w1_s0 : w.heap.size < w1.heap.size := (by omega); have w1_s1 : w.heap.size + 1 < w1.heap.size := (by omega); have w1_s2 : w.heap.size + 2 < w1.heap.size := (by omega); clear w1_h)
      go_wp2_with fail
      (refine calls_name fun wb hwb => ?_; have wb_s0 : w.heap.size < wb.heap.size := szg hwb; have wb_s1 : w.heap.size + 1 < wb.heap.size := szg hwb; have wb_s2 : w.heap.size + 2 < wb.heap.size := szg hwb; have wb_c0 : wb.cell? ⟨w.heap.size, 0, none⟩ = some (.string f) := cg hwb; have wb_c1 : wb.cell? ⟨w.heap.size, 1, none⟩ = some (.string t) := cg hwb; have wb_c2 : wb.cell? ⟨w.heap.size + 1, 0, none⟩ = some (.string f') := cg hwb; have wb_c3 : wb.cell? ⟨w.heap.size + 1, 1, none⟩ = some (.string t') := cg hwb; have wb_c4 : wb.cell? ⟨w.heap.size + 2, 0, none⟩ = some (.string ⟨#[]⟩) := cg hwb; have wb_f4 : wb.frozen? ⟨w.heap.size + 2, 0, none⟩ = false := fg hwb; have wb_c5 : wb.cell? ⟨w.heap.size + 2, 1, none⟩ = some (.string ⟨#[]⟩) := cg hwb; have wb_f5 : wb.frozen? ⟨w.heap.size + 2, 1, none⟩ = false := fg hwb; have wb_b : Below w.heap.size w wb := (by rw [hwb]; exact bg); clear hwb)
      refine (span_is _ _ _).mono ?_
      rw [H2.out]
      (rintro e w2 ⟨rfl, w2_h⟩; obtain ⟨w2_hc, w2_hf⟩ := bcell w2_h; have w2_z := w2_h.size; have w2_b := wb_b.trans (w2_h.mono (by have := wb_b.size; omega)); have w2_le := w2_b.size; have w2_s0 : w.heap.size < w2.heap.size := (by omega); have w2_s1 : w.heap.size + 1 < w2.heap.size := (by omega); have w2_s2 : w.heap.size + 2 < w2.heap.size := (by omega); clear w2_h)
      go_wp2_with fail
      rotate_left 2
      · refine bodyPost_ret (v := .tuple #[.agg #[.string f, .string t'], .bool true]) (by simp [results, Try.results99, go_sem, *]) rfl ⟨?_, bg⟩
        simp_all [joinOk, sel, H1.out, H2.out]
      all_goals refine bodyPost_ret (v := .tuple #[.agg #[.string ⟨#[]⟩, .string ⟨#[]⟩], .bool false]) (by simp [results, Try.results99, go_sem, *]) rfl ⟨?_, bg⟩
      · simp_all [joinOk, sel]
      · simp_all [joinOk, sel]
end Go.Proofs.Ythlcmjgdilebeaa

namespace Go.Proofs.Ythlcmjgdilebeaa.O
open Go.RowKit
set_option maxRecDepth 20000

theorem sGo_step (a : Sp) (l : List Sp) (k : Nat) (h : k < l.length) : sGo a (l.drop k) = if joinOk a.1 a.2 l[k].1 l[k].2 then sGo (a.1, l[k].2) (l.drop (k + 1)) else none := by
  rw [List.drop_eq_getElem_cons h]; rfl
theorem sAll_none {l : List Sp} {a : Sp} {k : Nat} (hl : 0 < l.length) (hs : sGo l[0] l.tail = sGo a (l.drop k)) (h : k < l.length) (hj : joinOk a.1 a.2 l[k].1 l[k].2 = false) : sAll l = false := by
  rw [sGo_step a l k h, hj] at hs
  cases l with
  | nil => simp at hl
  | cons s r => simp only [List.getElem_cons_zero, List.tail_cons] at hs; simp [sAll, hs]
theorem sAll_end {l : List Sp} {a : Sp} {k : Nat} (hl : 0 < l.length) (hs : sGo l[0] l.tail = sGo a (l.drop k)) (h : l.length ≤ k) : sAll l = endB a := by
  rw [List.drop_eq_nil_of_le h] at hs
  cases l with
  | nil => simp at hl
  | cons s r => simp only [List.getElem_cons_zero, List.tail_cons, sGo] at hs; simp [sAll, hs]

set_option maxHeartbeats 4000000 in
theorem span_all_some (b off cap : Nat) (l : List Sp) (w : World) (hl : l.length ≤ 9223372036854775807) (hr : SpanRow w b off l) (hpos : 0 < l.length) (hb : b < w.heap.size) :
    Calls Try.prog 92 #[.slice (some ⟨b, off, none⟩) l.length cap] w fun e w' => e = .returned (.bool (sAll l)) ∧ Below w.heap.size w w' := by
  go_enter Try.func92, Try.ntmps92
  go_wp2
  go_loopw [10] (fun i wr => ∃ (k : Nat) (a : Sp), k ≤ l.length ∧ i = .int .i64 k ∧ Below w.heap.size w wr ∧ w.heap.size < wr.heap.size ∧ wr.cell? ⟨w.heap.size, 0, none⟩ = some (.string a.1) ∧ wr.cell? ⟨w.heap.size, 1, none⟩ = some (.string a.2) ∧ wr.frozen? ⟨w.heap.size, 0, none⟩ = false ∧ wr.frozen? ⟨w.heap.size, 1, none⟩ = false ∧ Hid ((k = 0 → a = (⟨#[]⟩, ⟨#[]⟩)) ∧ (1 ≤ k → sGo l[0] l.tail = sGo a (l.drop k)))) (fun i _ => l.length - (intOf i).toNat)
  case atStart => exact ⟨0, (⟨#[]⟩, ⟨#[]⟩), Nat.zero_le _, rfl, bg, by simp, by simp [go_sem], by simp [go_sem], by simp [go_sem], by simp [go_sem], ⟨fun _ => rfl, fun h => by omega⟩⟩
  case round =>
    obtain ⟨k, a, hk, rfl, wr_b, hs, ha1, ha2, hf1, hf2, hst⟩ := hrel
    have Hr := Lib.hid hr
    by_cases hlt : k < l.length
    · have h1 : wr.cell? ⟨b, off + k * 2, none⟩ = some (.string l[k].1) := (wr_b.cell (p := ⟨b, off + k * 2, none⟩) hb).trans (hr k hlt).1
      have h2 : wr.cell? ⟨b, off + k * 2 + 1, none⟩ = some (.string l[k].2) := (wr_b.cell (p := ⟨b, off + k * 2 + 1, none⟩) hb).trans (hr k hlt).2
      clear hr
      by_cases h0 : k = 0
      · subst h0
        simp only [Nat.zero_mul, Nat.add_zero] at h1 h2
        go_wp2_with fail
        go_roundw
        case rel => exact ⟨1, l[0], by omega, by go_num, bg, by simp; omega, by go_simp, by go_simp, by go_simp, by go_simp, ⟨fun h => by omega, fun _ => by rw [List.drop_one]⟩⟩
        case measure => simp [intOf]; omega
      · have hk0 : ((k : Int) == 0) = false := by simp; omega
        go_wp2_with fail
        (refine calls_name fun wa hwa => ?_; have wa_s0 : w.heap.size < wa.heap.size := szg hwa; have wa_s1 : wr.heap.size < wa.heap.size := szg hwa; have wa_c0 : wa.cell? ⟨w.heap.size, 0, none⟩ = some (.string a.1) := cg hwa; have wa_f0 : wa.frozen? ⟨w.heap.size, 0, none⟩ = false := fg hwa; have wa_c1 : wa.cell? ⟨w.heap.size, 1, none⟩ = some (.string a.2) := cg hwa; have wa_f1 : wa.frozen? ⟨w.heap.size, 1, none⟩ = false := fg hwa; have wa_c2 : wa.cell? ⟨wr.heap.size, 0, none⟩ = some (.string l[k].1) := cg hwa; have wa_c3 : wa.cell? ⟨wr.heap.size, 1, none⟩ = some (.string l[k].2) := cg hwa; have wa_b : Below w.heap.size w wa := (by rw [hwa]; exact bg); clear hwa)
        refine (span_join a.1 a.2 l[k].1 l[k].2 _).mono ?_
        (rintro e w1 ⟨rfl, w1_h⟩; obtain ⟨w1_hc, w1_hf⟩ := bcell w1_h; have w1_z := w1_h.size; have w1_b := wa_b.trans (w1_h.mono (by have := wa_b.size; omega)); have w1_le := w1_b.size; have w1_s0 : w.heap.size < w1.heap.size := (by omega); have w1_s1 : wr.heap.size < w1.heap.size := (by omega); clear w1_h)
        cases hj : joinOk a.1 a.2 l[k].1 l[k].2
        · simp only [sel]
          go_wp2_with fail
          go_ret
          exact ⟨by rw [sAll_none hpos (hst.out.2 (by omega)) hlt hj]; rfl, bg⟩
        · simp only [sel, if_true]
          go_wp2_with fail
          go_roundw
          case rel => exact ⟨k + 1, (a.1, l[k].2), by omega, by go_num, bg, by simp; omega, by go_simp, by go_simp, by go_simp, by go_simp, ⟨fun h => by omega, fun _ => by rw [hst.out.2 (by omega), sGo_step a l k hlt, if_pos hj]⟩⟩
          case measure => simp [intOf]; omega
    · clear hr
      have hkl : (k : Int) = l.length := by omega
      have Hkl := Lib.hid hkl; clear hkl
      go_wp2_with fail
      (refine calls_name fun wa hwa => ?_; have wa_s0 : w.heap.size < wa.heap.size := szg hwa; have wa_c0 : wa.cell? ⟨w.heap.size, 0, none⟩ = some (.string a.1) := cg hwa; have wa_c1 : wa.cell? ⟨w.heap.size, 1, none⟩ = some (.string a.2) := cg hwa; have wa_b : Below w.heap.size w wa := (by rw [hwa]; exact bg); clear hwa)
      refine (span_is a.1 a.2 _).mono ?_
      (rintro e w1 ⟨rfl, w1_h⟩; obtain ⟨w1_hc, w1_hf⟩ := bcell w1_h; have w1_z := w1_h.size; have w1_b := wa_b.trans (w1_h.mono (by have := wa_b.size; omega)); have w1_le := w1_b.size; have w1_s0 : w.heap.size < w1.heap.size := (by omega); clear w1_h)
      go_wp2_with fail
      all_goals go_ret
      all_goals (refine ⟨?_, bg⟩; rw [sAll_end hpos (hst.out.2 (by omega)) (by omega)]; simp [endB, *])

end Go.Proofs.Ythlcmjgdilebeaa.O
