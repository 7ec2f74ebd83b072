/- The contracts of EncodeReply, of the code and of the document. -/
import Derived.Test.YtglidhbkglfkeaaRepP
import Derived.Test.YtglidhbkglfkeaaItIs
import Derived.Test.YtglidhbkglfkeaaSm
namespace Go.Proofs.Ytglidhbkglfkeaa
open Go.RowKit
attribute [local go_sem ↓] Go.wp_at_zero Go.wp_at_succ

theorem is_op.mayReply (i : It) (w : World) : Calls Try.prog 58 #[.agg #[.int .i64 i.a, .int .i64 i.b, .int .i64 i.c, .int .i64 i.d]] w fun e w' => e = .returned (.bool (isI i)) ∧ Below w.heap.size w w' := purse_is i w
theorem is_satrapyref10.MayReply (i : It) (w : World) : Calls Try.prog 59 #[.agg #[.int .i64 i.a, .int .i64 i.b, .int .i64 i.c, .int .i64 i.d]] w fun e w' => e = .returned (.bool (isI i)) ∧ Below w.heap.size w w' := satrapyref8_is i w
set_option maxHeartbeats 1000000 in
theorem qop.mayReply_any (r : Rp) (w : World) (z : Bool) (hz : mayR r = z) :
    Calls Try.prog 42 #[.agg #[.int .i64 r.err, .int .i64 r.id, .int .i64 r.i.a, .int .i64 r.i.b, .int .i64 r.i.c, .int .i64 r.i.d]] w fun e w' => e = .returned (.bool z) ∧ Below w.heap.size w w' := by
  unfold mayR at hz
  by_cases h1 : 0 ≤ r.err
  · by_cases h2 : r.err ≤ 19
    · by_cases h3 : 0 ≤ r.id
      · by_cases h4 : r.id ≤ 1099511627776
        · have hi : isI r.i = z := by rw [← hz]; simp [h1, h2, h3, h4]
          have His := Lib.hid (fun w => is_op.mayReply r.i w)
          rw [hi] at His
          clear hi hz
          go_enter Try.func42, Try.ntmps42
          go_wp2_with fail
          (refine calls_name fun wa hwa => ?_; have wa_s0 : w.heap.size < wa.heap.size := (by rw [hwa]; first | omega | (simp; done) | (simp; omega)); have wa_c0 : wa.cell? ⟨w.heap.size, 0, none⟩ = some (.int .i64 r.err) := (by rw [hwa]; go_simp); have wa_c1 : wa.cell? ⟨w.heap.size, 1, none⟩ = some (.int .i64 r.id) := (by rw [hwa]; go_simp); have wa_c2 : wa.cell? ⟨w.heap.size, 2, none⟩ = some (.int .i64 r.i.a) := (by rw [hwa]; go_simp); have wa_c3 : wa.cell? ⟨w.heap.size, 3, none⟩ = some (.int .i64 r.i.b) := (by rw [hwa]; go_simp); have wa_c4 : wa.cell? ⟨w.heap.size, 4, none⟩ = some (.int .i64 r.i.c) := (by rw [hwa]; go_simp); have wa_c5 : wa.cell? ⟨w.heap.size, 5, none⟩ = some (.int .i64 r.i.d) := (by rw [hwa]; go_simp); have wa_b : Below w.heap.size w wa := (by rw [hwa]; exact (by repeat (first | with_reducible exact Below.refl _ _ | with_reducible assumption | with_reducible refine Below.drew ?_ | with_reducible refine below_drawn ?_ | with_reducible refine Below.alloc ?_ (by first | omega | (simp; done) | (simp; omega) | (simp at *; omega)) _ | with_reducible refine Below.setCell ?_ (by first | omega | (simp; done) | (simp; omega) | (simp at *; omega)) _ | with_reducible refine Below.trans ?_ (Below.mono (by assumption) (by first | omega | (simp; done) | (simp; omega) | (simp at *; omega)))))); clear hwa)
          refine (His.out _).mono ?_
          (rintro e w1 ⟨rfl, w1_h⟩; obtain ⟨w1_hc, w1_hf⟩ := bcell w1_h; have w1_z := w1_h.size; have w1_b := wa_b.trans (w1_h.mono (by have := wa_b.size; omega)); have w1_le := w1_b.size; have w1_s0 : w.heap.size < w1.heap.size := (by omega); clear w1_h)
          go_wp2_with fail
          go_ret
          exact ⟨rfl, (by repeat (first | with_reducible exact Below.refl _ _ | with_reducible assumption | with_reducible refine Below.drew ?_ | with_reducible refine below_drawn ?_ | with_reducible refine Below.alloc ?_ (by first | omega | (simp; done) | (simp; omega) | (simp at *; omega)) _ | with_reducible refine Below.setCell ?_ (by first | omega | (simp; done) | (simp; omega) | (simp at *; omega)) _ | with_reducible refine Below.trans ?_ (Below.mono (by assumption) (by first | omega | (simp; done) | (simp; omega) | (simp at *; omega)))))⟩
        · obtain rfl : z = false := by rw [← hz]; simp [h4]
          have d : decide (r.id ≤ 1099511627776) = false := by rw [decide_eq_false_iff_not]; exact h4
          clear hz
          go_enter Try.func42, Try.ntmps42
          go_wp2_with fail
          go_ret
          exact ⟨rfl, (by repeat (first | with_reducible exact Below.refl _ _ | with_reducible assumption | with_reducible refine Below.drew ?_ | with_reducible refine below_drawn ?_ | with_reducible refine Below.alloc ?_ (by first | omega | (simp; done) | (simp; omega) | (simp at *; omega)) _ | with_reducible refine Below.setCell ?_ (by first | omega | (simp; done) | (simp; omega) | (simp at *; omega)) _ | with_reducible refine Below.trans ?_ (Below.mono (by assumption) (by first | omega | (simp; done) | (simp; omega) | (simp at *; omega)))))⟩
      · obtain rfl : z = false := by rw [← hz]; simp [h3]
        clear hz
        go_enter Try.func42, Try.ntmps42
        go_wp2_with fail
        go_ret
        exact ⟨rfl, (by repeat (first | with_reducible exact Below.refl _ _ | with_reducible assumption | with_reducible refine Below.drew ?_ | with_reducible refine below_drawn ?_ | with_reducible refine Below.alloc ?_ (by first | omega | (simp; done) | (simp; omega) | (simp at *; omega)) _ | with_reducible refine Below.setCell ?_ (by first | omega | (simp; done) | (simp; omega) | (simp at *; omega)) _ | with_reducible refine Below.trans ?_ (Below.mono (by assumption) (by first | omega | (simp; done) | (simp; omega) | (simp at *; omega)))))⟩
    · obtain rfl : z = false := by rw [← hz]; simp [h2]
      clear hz
      go_enter Try.func42, Try.ntmps42
      go_wp2_with fail
      go_ret
      exact ⟨rfl, (by repeat (first | with_reducible exact Below.refl _ _ | with_reducible assumption | with_reducible refine Below.drew ?_ | with_reducible refine below_drawn ?_ | with_reducible refine Below.alloc ?_ (by first | omega | (simp; done) | (simp; omega) | (simp at *; omega)) _ | with_reducible refine Below.setCell ?_ (by first | omega | (simp; done) | (simp; omega) | (simp at *; omega)) _ | with_reducible refine Below.trans ?_ (Below.mono (by assumption) (by first | omega | (simp; done) | (simp; omega) | (simp at *; omega)))))⟩
  · obtain rfl : z = false := by rw [← hz]; simp [h1]
    clear hz
    go_enter Try.func42, Try.ntmps42
    go_wp2_with fail
    go_ret
    exact ⟨rfl, (by repeat (first | with_reducible exact Below.refl _ _ | with_reducible assumption | with_reducible refine Below.drew ?_ | with_reducible refine below_drawn ?_ | with_reducible refine Below.alloc ?_ (by first | omega | (simp; done) | (simp; omega) | (simp at *; omega)) _ | with_reducible refine Below.setCell ?_ (by first | omega | (simp; done) | (simp; omega) | (simp at *; omega)) _ | with_reducible refine Below.trans ?_ (Below.mono (by assumption) (by first | omega | (simp; done) | (simp; omega) | (simp at *; omega)))))⟩
set_option maxHeartbeats 1000000 in
theorem qsatrapyref10.MayReply_any (r : Rp) (w : World) (z : Bool) (hz : mayR r = z) :
    Calls Try.prog 43 #[.agg #[.int .i64 r.err, .int .i64 r.id, .int .i64 r.i.a, .int .i64 r.i.b, .int .i64 r.i.c, .int .i64 r.i.d]] w fun e w' => e = .returned (.bool z) ∧ Below w.heap.size w w' := by
  unfold mayR at hz
  by_cases h1 : 0 ≤ r.err
  · by_cases h2 : r.err ≤ 19
    · by_cases h3 : 0 ≤ r.id
      · by_cases h4 : r.id ≤ 1099511627776
        · have hi : isI r.i = z := by rw [← hz]; simp [h1, h2, h3, h4]
          have His := Lib.hid (fun w => is_satrapyref10.MayReply r.i w)
          rw [hi] at His
          clear hi hz
          go_enter Try.func43, Try.ntmps43
          go_wp2_with fail
          (refine calls_name fun wa hwa => ?_; have wa_s0 : w.heap.size < wa.heap.size := (by rw [hwa]; first | omega | (simp; done) | (simp; omega)); have wa_c0 : wa.cell? ⟨w.heap.size, 0, none⟩ = some (.int .i64 r.err) := (by rw [hwa]; go_simp); have wa_c1 : wa.cell? ⟨w.heap.size, 1, none⟩ = some (.int .i64 r.id) := (by rw [hwa]; go_simp); have wa_c2 : wa.cell? ⟨w.heap.size, 2, none⟩ = some (.int .i64 r.i.a) := (by rw [hwa]; go_simp); have wa_c3 : wa.cell? ⟨w.heap.size, 3, none⟩ = some (.int .i64 r.i.b) := (by rw [hwa]; go_simp); have wa_c4 : wa.cell? ⟨w.heap.size, 4, none⟩ = some (.int .i64 r.i.c) := (by rw [hwa]; go_simp); have wa_c5 : wa.cell? ⟨w.heap.size, 5, none⟩ = some (.int .i64 r.i.d) := (by rw [hwa]; go_simp); have wa_b : Below w.heap.size w wa := (by rw [hwa]; exact (by repeat (first | with_reducible exact Below.refl _ _ | with_reducible assumption | with_reducible refine Below.drew ?_ | with_reducible refine below_drawn ?_ | with_reducible refine Below.alloc ?_ (by first | omega | (simp; done) | (simp; omega) | (simp at *; omega)) _ | with_reducible refine Below.setCell ?_ (by first | omega | (simp; done) | (simp; omega) | (simp at *; omega)) _ | with_reducible refine Below.trans ?_ (Below.mono (by assumption) (by first | omega | (simp; done) | (simp; omega) | (simp at *; omega)))))); clear hwa)
          refine (His.out _).mono ?_
          (rintro e w1 ⟨rfl, w1_h⟩; obtain ⟨w1_hc, w1_hf⟩ := bcell w1_h; have w1_z := w1_h.size; have w1_b := wa_b.trans (w1_h.mono (by have := wa_b.size; omega)); have w1_le := w1_b.size; have w1_s0 : w.heap.size < w1.heap.size := (by omega); clear w1_h)
          go_wp2_with fail
          go_ret
          exact ⟨rfl, (by repeat (first | with_reducible exact Below.refl _ _ | with_reducible assumption | with_reducible refine Below.drew ?_ | with_reducible refine below_drawn ?_ | with_reducible refine Below.alloc ?_ (by first | omega | (simp; done) | (simp; omega) | (simp at *; omega)) _ | with_reducible refine Below.setCell ?_ (by first | omega | (simp; done) | (simp; omega) | (simp at *; omega)) _ | with_reducible refine Below.trans ?_ (Below.mono (by assumption) (by first | omega | (simp; done) | (simp; omega) | (simp at *; omega)))))⟩
        · obtain rfl : z = false := by rw [← hz]; simp [h4]
          have d : decide (r.id ≤ 1099511627776) = false := by rw [decide_eq_false_iff_not]; exact h4
          clear hz
          go_enter Try.func43, Try.ntmps43
          go_wp2_with fail
          go_ret
          exact ⟨rfl, (by repeat (first | with_reducible exact Below.refl _ _ | with_reducible assumption | with_reducible refine Below.drew ?_ | with_reducible refine below_drawn ?_ | with_reducible refine Below.alloc ?_ (by first | omega | (simp; done) | (simp; omega) | (simp at *; omega)) _ | with_reducible refine Below.setCell ?_ (by first | omega | (simp; done) | (simp; omega) | (simp at *; omega)) _ | with_reducible refine Below.trans ?_ (Below.mono (by assumption) (by first | omega | (simp; done) | (simp; omega) | (simp at *; omega)))))⟩
      · obtain rfl : z = false := by rw [← hz]; simp [h3]
        clear hz
        go_enter Try.func43, Try.ntmps43
        go_wp2_with fail
        go_ret
        exact ⟨rfl, (by repeat (first | with_reducible exact Below.refl _ _ | with_reducible assumption | with_reducible refine Below.drew ?_ | with_reducible refine below_drawn ?_ | with_reducible refine Below.alloc ?_ (by first | omega | (simp; done) | (simp; omega) | (simp at *; omega)) _ | with_reducible refine Below.setCell ?_ (by first | omega | (simp; done) | (simp; omega) | (simp at *; omega)) _ | with_reducible refine Below.trans ?_ (Below.mono (by assumption) (by first | omega | (simp; done) | (simp; omega) | (simp at *; omega)))))⟩
    · obtain rfl : z = false := by rw [← hz]; simp [h2]
      clear hz
      go_enter Try.func43, Try.ntmps43
      go_wp2_with fail
      go_ret
      exact ⟨rfl, (by repeat (first | with_reducible exact Below.refl _ _ | with_reducible assumption | with_reducible refine Below.drew ?_ | with_reducible refine below_drawn ?_ | with_reducible refine Below.alloc ?_ (by first | omega | (simp; done) | (simp; omega) | (simp at *; omega)) _ | with_reducible refine Below.setCell ?_ (by first | omega | (simp; done) | (simp; omega) | (simp at *; omega)) _ | with_reducible refine Below.trans ?_ (Below.mono (by assumption) (by first | omega | (simp; done) | (simp; omega) | (simp at *; omega)))))⟩
  · obtain rfl : z = false := by rw [← hz]; simp [h1]
    clear hz
    go_enter Try.func43, Try.ntmps43
    go_wp2_with fail
    go_ret
    exact ⟨rfl, (by repeat (first | with_reducible exact Below.refl _ _ | with_reducible assumption | with_reducible refine Below.drew ?_ | with_reducible refine below_drawn ?_ | with_reducible refine Below.alloc ?_ (by first | omega | (simp; done) | (simp; omega) | (simp at *; omega)) _ | with_reducible refine Below.setCell ?_ (by first | omega | (simp; done) | (simp; omega) | (simp at *; omega)) _ | with_reducible refine Below.trans ?_ (Below.mono (by assumption) (by first | omega | (simp; done) | (simp; omega) | (simp at *; omega)))))⟩
/-- Nums of numbers that lie in a block of the call's own. -/
theorem St.numsIn {W w : World} {L : List Th} {p b : Nat} {l : List UInt8} {o : Option Nat} {cur : Array Value} {t : TypeId} (h : St W w (thWr p W.heap.size l o :: thObj b (.cells cur t (0, 0)) :: L)) (vs : List Int) (off cv k : Nat) (hk : k = vs.length) (hc : ∀ i, (hi : i < vs.length) → cur[off + i]? = some (.int .i64 vs[i])) (hm : l.length + 10 * vs.length ≤ 140737488351232) :
    Calls Try.prog 21 #[.pointer (some ⟨p, 0, none⟩), .slice (some ⟨b, off, none⟩) k cv] w fun e w' => e = .returned (.tuple #[]) ∧ ∃ o', St W w' (thWr p W.heap.size (l ++ encs vs) o' :: thObj b (.cells cur t (0, 0)) :: L) := by
  subst hk
  obtain ⟨hlt, hcell, -⟩ := h.cells (b := b) (cur := cur) (t := t) (List.mem_cons_of_mem _ (List.mem_cons_self ..))
  have hdis := h.t.2.2.1 (thObj b (.cells cur t (0, 0))) (List.mem_cons_self ..)
  refine (nums_some p W.heap.size l o b off cv vs w h.head (fun i hi => by rw [hcell]; exact hc i hi) hlt (fun e => hdis b (.inl e) rfl) (fun e => hdis b (.inr e) rfl) h.b.size hm).mono ?_
  rintro e w' ⟨rfl, hi⟩
  exact ⟨rfl, h.wrote hi⟩
def RepPost (w : World) (r : Rp) (e : Ending) (w' : World) : Prop := ∃ ao cap, e = .returned (.tuple #[.slice ao (encP r).length cap, .int .i64 0]) ∧ OwnB w' w.heap.size ao cap (encP r) ∧ Below w.heap.size w w'
set_option maxRecDepth 20000 in
set_option maxHeartbeats 2000000 in
theorem encrep_yes (r : Rp) (w : World) (hm : mayR r = true) : Calls Try.prog 17 #[.agg #[.int .i64 r.err, .int .i64 r.id, .int .i64 r.i.a, .int .i64 r.i.b, .int .i64 r.i.c, .int .i64 r.i.d]] w (RepPost w r) := by
  have Hmy := Lib.hid (fun w => qop.mayReply_any r w true hm)
  have Hlen := Lib.hid (encP_len r)
  clear hm
  go_enter Try.func17, Try.ntmps17
  go_wp2_with fail
  have S0 : Hid (St w _ [thObj w.heap.size (.cells #[.int .i64 r.err, .int .i64 r.id, .int .i64 r.i.a, .int .i64 r.i.b, .int .i64 r.i.c, .int .i64 r.i.d] 45 (0, 0))]) := (St.start w).objN (.cells #[.int .i64 r.err, .int .i64 r.id, .int .i64 r.i.a, .int .i64 r.i.b, .int .i64 r.i.c, .int .i64 r.i.d] 45) w.heap.size rfl
  refine (Hmy.out _).mono ?_
  rintro e w1 ⟨rfl, hb1⟩
  have S1 := Lib.hid (S0.out.grow hb1)
  obtain ⟨hlt1, hc1, -⟩ := S1.out.cellsN 0 rfl
  clear S0 hb1
  go_wp2_with fail
  have S2 := S1.out.newWr w1.heap.size rfl w.heap.size
  refine (S2.nums [r.err, r.id] (w1.heap.size + 1) 2 (by simp) rfl _ rfl (by simp)).mono ?_
  rintro e w2 ⟨rfl, o2, hS⟩
  have S3 := Lib.hid hS
  obtain ⟨hlt2, hc2, -⟩ := S3.out.cellsN 1 rfl
  clear S1 S2 hS hlt1 hc1
  go_wp2_with fail
  refine (S3.out.numsIn [r.i.a, r.i.b, r.i.c, r.i.d] 2 4 4 rfl ?_ (by have := Hlen.out; simp only [List.nil_append, List.length_cons, List.length_nil]; omega)).mono ?_
  · intro i hi
    have : i = 0 ∨ i = 1 ∨ i = 2 ∨ i = 3 := by simp at hi; omega
    rcases this with rfl | rfl | rfl | rfl <;> rfl
  rintro e w3 ⟨rfl, o3, hS⟩
  have S4 : Hid (St w w3 [thWr w1.heap.size w.heap.size (encP r) o3, thObj w.heap.size (.cells #[.int .i64 r.err, .int .i64 r.id, .int .i64 r.i.a, .int .i64 r.i.b, .int .i64 r.i.c, .int .i64 r.i.d] 45 (0, 0))]) := hS
  clear S3 hS hlt2 hc2
  go_wp2_with fail
  refine (out_any w1.heap.size w.heap.size (encP r) o3 w3 S4.out.head (by have := Hlen.out; simp only [encP, List.length_append]; omega)).mono ?_
  rintro e w4 ⟨ao, cap, rfl, ho, hb⟩
  go_wp2_with fail
  go_ret2
  exact ⟨ao, cap, rfl, own_weak ho S4.out.b.size, (S4.out.grow hb).b⟩
theorem encrep_no (r : Rp) (w : World) (hm : mayR r = false) : Calls Try.prog 17 #[.agg #[.int .i64 r.err, .int .i64 r.id, .int .i64 r.i.a, .int .i64 r.i.b, .int .i64 r.i.c, .int .i64 r.i.d]] w fun e w' => e = .returned (.tuple #[.slice none 0 0, .int .i64 1]) ∧ Below w.heap.size w w' := by
  have Hmy := Lib.hid (fun w => qop.mayReply_any r w false hm)
  clear hm
  go_enter Try.func17, Try.ntmps17
  go_wp2_with fail
  (refine calls_name fun wa hwa => ?_; have wa_b : Below w.heap.size w wa := (by rw [hwa]; exact (by repeat (first | with_reducible exact Below.refl _ _ | with_reducible assumption | with_reducible refine Below.drew ?_ | with_reducible refine below_drawn ?_ | with_reducible refine Below.alloc ?_ (by first | omega | (simp; done) | (simp; omega) | (simp at *; omega)) _ | with_reducible refine Below.setCell ?_ (by first | omega | (simp; done) | (simp; omega) | (simp at *; omega)) _ | with_reducible refine Below.trans ?_ (Below.mono (by assumption) (by first | omega | (simp; done) | (simp; omega) | (simp at *; omega)))))); clear hwa)
  refine (Hmy.out _).mono ?_
  (rintro e w1 ⟨rfl, w1_h⟩; obtain ⟨w1_hc, w1_hf⟩ := bcell w1_h; have w1_z := w1_h.size; have w1_b := wa_b.trans (w1_h.mono (by have := wa_b.size; omega)); have w1_le := w1_b.size; clear w1_h)
  go_wp2_with fail
  go_ret2
  exact ⟨rfl, (by repeat (first | with_reducible exact Below.refl _ _ | with_reducible assumption | with_reducible refine Below.drew ?_ | with_reducible refine below_drawn ?_ | with_reducible refine Below.alloc ?_ (by first | omega | (simp; done) | (simp; omega) | (simp at *; omega)) _ | with_reducible refine Below.setCell ?_ (by first | omega | (simp; done) | (simp; omega) | (simp at *; omega)) _ | with_reducible refine Below.trans ?_ (Below.mono (by assumption) (by first | omega | (simp; done) | (simp; omega) | (simp at *; omega)))))⟩
theorem rencrep_no (r : Rp) (w : World) (hm : mayR r = false) : Calls Try.prog 18 #[.agg #[.int .i64 r.err, .int .i64 r.id, .int .i64 r.i.a, .int .i64 r.i.b, .int .i64 r.i.c, .int .i64 r.i.d]] w fun e w' => e = .returned (.tuple #[.slice none 0 0, .int .i64 1]) ∧ Below w.heap.size w w' := by
  have Hmy := Lib.hid (fun w => qsatrapyref10.MayReply_any r w false hm)
  clear hm
  go_enter Try.func18, Try.ntmps18
  go_wp2_with fail
  (refine calls_name fun wa hwa => ?_; have wa_b : Below w.heap.size w wa := (by rw [hwa]; exact (by repeat (first | with_reducible exact Below.refl _ _ | with_reducible assumption | with_reducible refine Below.drew ?_ | with_reducible refine below_drawn ?_ | with_reducible refine Below.alloc ?_ (by first | omega | (simp; done) | (simp; omega) | (simp at *; omega)) _ | with_reducible refine Below.setCell ?_ (by first | omega | (simp; done) | (simp; omega) | (simp at *; omega)) _ | with_reducible refine Below.trans ?_ (Below.mono (by assumption) (by first | omega | (simp; done) | (simp; omega) | (simp at *; omega)))))); clear hwa)
  refine (Hmy.out _).mono ?_
  (rintro e w1 ⟨rfl, w1_h⟩; obtain ⟨w1_hc, w1_hf⟩ := bcell w1_h; have w1_z := w1_h.size; have w1_b := wa_b.trans (w1_h.mono (by have := wa_b.size; omega)); have w1_le := w1_b.size; clear w1_h)
  go_wp2_with fail
  go_ret2
  exact ⟨rfl, (by repeat (first | with_reducible exact Below.refl _ _ | with_reducible assumption | with_reducible refine Below.drew ?_ | with_reducible refine below_drawn ?_ | with_reducible refine Below.alloc ?_ (by first | omega | (simp; done) | (simp; omega) | (simp at *; omega)) _ | with_reducible refine Below.setCell ?_ (by first | omega | (simp; done) | (simp; omega) | (simp at *; omega)) _ | with_reducible refine Below.trans ?_ (Below.mono (by assumption) (by first | omega | (simp; done) | (simp; omega) | (simp at *; omega)))))⟩
set_option maxHeartbeats 1000000 in
theorem renc8_any (i : It) (w : World) : Calls Try.prog 44 #[.agg #[.int .i64 i.a, .int .i64 i.b, .int .i64 i.c, .int .i64 i.d]] w (FreshB w (encItB i)) := by
  go_enter Try.func44, Try.ntmps44
  go_wp2_with fail
  refine (refNums_eq [i.a, i.b, i.c, i.d] _ _ 4 _ (by simp) rfl rfl (by simp) _ rfl).mono ?_
  rintro e w1 ⟨ao, cap, rfl, ho, hb⟩
  have hX : encs [i.a, i.b, i.c, i.d] = encItB i := rfl
  rw [hX] at ho ⊢
  have Ho := Lib.hid ho
  have Hb := Lib.hid hb
  clear hX ho hb
  go_wp2_with fail
  go_ret
  exact ⟨ao, cap, rfl, own_weak Ho.out (by simp), (below_allocO w _).trans (Hb.out.mono (by simp))⟩
set_option maxRecDepth 20000 in
set_option maxHeartbeats 2000000 in
theorem rencrep_yes (r : Rp) (w : World) (hm : mayR r = true) : Calls Try.prog 18 #[.agg #[.int .i64 r.err, .int .i64 r.id, .int .i64 r.i.a, .int .i64 r.i.b, .int .i64 r.i.c, .int .i64 r.i.d]] w (RepPost w r) := by
  have Hmy := Lib.hid (fun w => qsatrapyref10.MayReply_any r w true hm)
  have HL := Lib.hid (encP_len r)
  obtain ⟨i0, hi, hz0, hz1, hz2⟩ := info_parts byteInfo
  obtain ⟨A, hA⟩ : ∃ A, encs [r.err, r.id] = A := ⟨_, rfl⟩
  obtain ⟨B, hB⟩ : ∃ B, encItB r.i = B := ⟨_, rfl⟩
  have HE : Hid (encP r = A ++ B) := by rw [← hA, ← hB]; rfl
  have H8 := Lib.hid (fun w => renc8_any r.i w)
  rw [hA, hB] at HL
  rw [hB] at H8
  have HA := Lib.hid hA
  clear hm hA hB
  go_enter Try.func18, Try.ntmps18
  go_wp2_with fail
  (refine calls_name fun wa hwa => ?_; have wa_s0 : w.heap.size < wa.heap.size := (by rw [hwa]; first | omega | (simp; done) | (simp; omega)); have wa_c0 : wa.cell? ⟨w.heap.size, 0, none⟩ = some (.int .i64 r.err) := (by rw [hwa]; go_simp); have wa_c1 : wa.cell? ⟨w.heap.size, 1, none⟩ = some (.int .i64 r.id) := (by rw [hwa]; go_simp); have wa_c2 : wa.cell? ⟨w.heap.size, 2, none⟩ = some (.int .i64 r.i.a) := (by rw [hwa]; go_simp); have wa_c3 : wa.cell? ⟨w.heap.size, 3, none⟩ = some (.int .i64 r.i.b) := (by rw [hwa]; go_simp); have wa_c4 : wa.cell? ⟨w.heap.size, 4, none⟩ = some (.int .i64 r.i.c) := (by rw [hwa]; go_simp); have wa_c5 : wa.cell? ⟨w.heap.size, 5, none⟩ = some (.int .i64 r.i.d) := (by rw [hwa]; go_simp); have wa_b : Below w.heap.size w wa := (by rw [hwa]; exact (by repeat (first | with_reducible exact Below.refl _ _ | with_reducible assumption | with_reducible refine Below.drew ?_ | with_reducible refine below_drawn ?_ | with_reducible refine Below.alloc ?_ (by first | omega | (simp; done) | (simp; omega) | (simp at *; omega)) _ | with_reducible refine Below.setCell ?_ (by first | omega | (simp; done) | (simp; omega) | (simp at *; omega)) _ | with_reducible refine Below.trans ?_ (Below.mono (by assumption) (by first | omega | (simp; done) | (simp; omega) | (simp at *; omega)))))); clear hwa)
  refine (Hmy.out _).mono ?_
  (rintro e w1 ⟨rfl, w1_h⟩; obtain ⟨w1_hc, w1_hf⟩ := bcell w1_h; have w1_z := w1_h.size; have w1_b := wa_b.trans (w1_h.mono (by have := wa_b.size; omega)); have w1_le := w1_b.size; have w1_s0 : w.heap.size < w1.heap.size := (by omega); clear w1_h)
  go_wp2_with fail
  (refine wp_name fun wb hwb => ?_; have wb_s0 : w.heap.size < wb.heap.size := (by rw [hwb]; first | omega | (simp; done) | (simp; omega)); have wb_c0 : wb.cell? ⟨w.heap.size, 0, none⟩ = some (.int .i64 r.err) := (by rw [hwb]; go_simp); have wb_c1 : wb.cell? ⟨w.heap.size, 1, none⟩ = some (.int .i64 r.id) := (by rw [hwb]; go_simp); have wb_c2 : wb.cell? ⟨w.heap.size, 2, none⟩ = some (.int .i64 r.i.a) := (by rw [hwb]; go_simp); have wb_c3 : wb.cell? ⟨w.heap.size, 3, none⟩ = some (.int .i64 r.i.b) := (by rw [hwb]; go_simp); have wb_c4 : wb.cell? ⟨w.heap.size, 4, none⟩ = some (.int .i64 r.i.c) := (by rw [hwb]; go_simp); have wb_c5 : wb.cell? ⟨w.heap.size, 5, none⟩ = some (.int .i64 r.i.d) := (by rw [hwb]; go_simp); have wb_b : Below w.heap.size w wb := (by rw [hwb]; exact (by repeat (first | with_reducible exact Below.refl _ _ | with_reducible assumption | with_reducible refine Below.drew ?_ | with_reducible refine below_drawn ?_ | with_reducible refine Below.alloc ?_ (by first | omega | (simp; done) | (simp; omega) | (simp at *; omega)) _ | with_reducible refine Below.setCell ?_ (by first | omega | (simp; done) | (simp; omega) | (simp at *; omega)) _ | with_reducible refine Below.trans ?_ (Below.mono (by assumption) (by first | omega | (simp; done) | (simp; omega) | (simp at *; omega)))))); clear hwb)
  clear w1_hc w1_hf
  go_region_held3 (fun W => ∀ o, W.cell? ⟨w.heap.size, o, none⟩ = wb.cell? ⟨w.heap.size, o, none⟩) (first | assumption | exact fun _ => rfl | exact fun o => w9_b.cell (p := ⟨w.heap.size, o, none⟩) wb_s0 | exact fun o => hbw7.cell (p := ⟨w.heap.size, o, none⟩) wb_s0 | exact fun o => hbw8.cell (p := ⟨w.heap.size, o, none⟩) wb_s0 | exact fun o => ((below_allocO wb _).drew).cell (p := ⟨w.heap.size, o, none⟩) wb_s0) (first
    | (go_at_call 39; go_must (refine (refNums_in [r.err, r.id] _ wb.heap.size 2 #[.int .i64 r.err, .int .i64 r.id] ?_ rfl rfl (by simp) A HA.out).mono ?_; (focus (exact heap_new wb _)); rintro e w7 ⟨co7, cc7, rfl, ho7, hb7⟩; have hbw7 : Below wb.heap.size wb w7 := ((below_allocO wb _).drew).trans (hb7.mono (by first | (simp; done) | (simp; omega)))))
    | (go_at_call 44; go_must (refine (H8.out _).mono ?_; rintro e w8 ⟨co8, cc8, rfl, ho8, hb8⟩; have hbw8 : Below wb.heap.size wb w8 := hbw7.trans (hb8.mono hbw7.size)))
    | (refine at_app _ _ (by rfl) ?_; go_must (refine step_append_any _ (by rfl) (.tmp 12) (.tmp 15) 27 (by rfl) wb.heap.size 5 i0 (.int .u8 0) 1 1 Try.underlying27 hi hz0 hz1 hz2 rfl (by decide) (.slice co7 A.length cc7) A.length (bytV A) (by rfl) (own_weak (own_growO ho7 hb8) (by first | (simp; done) | (simp; omega))) co8 B.length cc8 (bytV B) (by rfl) ho8.none (by rw [bytV_length, Nat.mul_one]) ho8.at.cells (bytV_one _) (by have := HL.out; unfold maxLen; omega) (by have := HL.out; omega) (by have := hbw8.size; omega) ?_; intro vv w9 hown hgrow; have w9_b : Below wb.heap.size wb w9 := below_grown hbw8 (by have := hbw8.size; omega) hgrow (fun j hj => own_block (own_weak ho7 (show wb.heap.size ≤ _ by first | (simp; done) | (simp; omega))) hj); obtain ⟨do9, dc9, rfl, ho9⟩ := owned_bytes (l := A ++ B) (by rw [← bytV_append]; exact hown) (by rw [List.length_append]); clear hown hgrow))
    | fail)
  all_goals
    go_wp2_with fail
    go_ret2
    refine ⟨do9, dc9, ?_, ?_, wb_b.trans (w9_b.mono (by omega))⟩
    · rw [HE.out, List.length_append]; rfl
    · rw [HE.out]; exact own_weak ho9 (by omega)
end Go.Proofs.Ytglidhbkglfkeaa
