/- The law SpanBack: what is cut and joined is what was there; a key is in just one of both. -/
import Derived.Test.YtkggjcfjehbbnaaW2
import Derived.Test.YtkggjcfjehbbnaaRows
import Derived.ProofKit
import Derived.OpenShut
import Derived.ShutString
import Derived.Lib.SmallJoins
namespace Go.Proofs.Ytkggjcfjehbbnaa
open Go.RowKit
theorem row1 (w : World) (f t : ByteArray) : ∀ W : World, W.cell? ⟨w.heap.size + 1, 0, none⟩ = some (.string f) → W.cell? ⟨w.heap.size + 1, 1, none⟩ = some (.string t) → SpanRow W (w.heap.size + 1) 0 [(f, t)] := by
  intro W h1 h2 i hi
  obtain rfl : i = 0 := by simpa using hi
  exact ⟨by simpa using h1, by simpa using h2⟩
set_option maxHeartbeats 2000000 in
theorem back_heavy (f t k x : ByteArray) (w : World) (h1 : tooB [(f, t)] = true) :
    Calls Try.prog 6 #[.agg #[.string f, .string t], .string k, .string x] w fun e w' => e = .returned (.bool true) ∧ Below w.heap.size w w' := by
  have Row := Lib.hid (row1 w f t)
  go_enter Try.func6, Try.ntmps6
  go_wp2_with fail; refine (heavy_any _ _ _ [(f, t)] _ (by simp) (Row.out _ (by simp [go_sem]) (by simp [go_sem]))).mono ?_; rintro e w0 ⟨rfl, rfl⟩
  go_wp2_with fail; go_ret; exact ⟨rfl, (by repeat (first | exact Below.refl _ _ | assumption | refine Below.drew ?_ | refine Below.alloc ?_ (by first | omega | (simp; done) | (simp; omega) | (simp at *; omega)) _ | refine Below.setCell ?_ (by first | omega | (simp; done) | (simp; omega) | (simp at *; omega)) _ | refine Below.trans ?_ (Below.mono (by assumption) (by first | omega | (simp; done) | (simp; omega) | (simp at *; omega)))))⟩
set_option maxHeartbeats 2000000 in
theorem back_long (f t k x : ByteArray) (w : World) (h1 : tooB [(f, t)] = false) (h2 : (200 : Int) < k.size) :
    Calls Try.prog 6 #[.agg #[.string f, .string t], .string k, .string x] w fun e w' => e = .returned (.bool true) ∧ Below w.heap.size w w' := by
  have Row := Lib.hid (row1 w f t)
  go_enter Try.func6, Try.ntmps6
  go_wp2_with fail; refine (heavy_any _ _ _ [(f, t)] _ (by simp) (Row.out _ (by simp [go_sem]) (by simp [go_sem]))).mono ?_; rintro e w0 ⟨rfl, rfl⟩
  go_wp2_with fail; go_ret; exact ⟨rfl, (by repeat (first | exact Below.refl _ _ | assumption | refine Below.drew ?_ | refine Below.alloc ?_ (by first | omega | (simp; done) | (simp; omega) | (simp at *; omega)) _ | refine Below.setCell ?_ (by first | omega | (simp; done) | (simp; omega) | (simp at *; omega)) _ | refine Below.trans ?_ (Below.mono (by assumption) (by first | omega | (simp; done) | (simp; omega) | (simp at *; omega)))))⟩
set_option maxHeartbeats 2000000 in
theorem back_longer (f t k x : ByteArray) (w : World) (h1 : tooB [(f, t)] = false) (h2 : ¬ (200 : Int) < k.size) (h3 : (200 : Int) < x.size) :
    Calls Try.prog 6 #[.agg #[.string f, .string t], .string k, .string x] w fun e w' => e = .returned (.bool true) ∧ Below w.heap.size w w' := by
  have Row := Lib.hid (row1 w f t)
  go_enter Try.func6, Try.ntmps6
  go_wp2_with fail; refine (heavy_any _ _ _ [(f, t)] _ (by simp) (Row.out _ (by simp [go_sem]) (by simp [go_sem]))).mono ?_; rintro e w0 ⟨rfl, rfl⟩
  go_wp2_with fail; go_ret; exact ⟨rfl, (by repeat (first | exact Below.refl _ _ | assumption | refine Below.drew ?_ | refine Below.alloc ?_ (by first | omega | (simp; done) | (simp; omega) | (simp at *; omega)) _ | refine Below.setCell ?_ (by first | omega | (simp; done) | (simp; omega) | (simp at *; omega)) _ | refine Below.trans ?_ (Below.mono (by assumption) (by first | omega | (simp; done) | (simp; omega) | (simp at *; omega)))))⟩
set_option maxHeartbeats 2000000 in
theorem back_no (f t k x : ByteArray) (w : World) (h1 : tooB [(f, t)] = false) (h2 : ¬ (200 : Int) < k.size) (h3 : ¬ (200 : Int) < x.size) (hok : cutOk f t k = false) :
    Calls Try.prog 6 #[.agg #[.string f, .string t], .string k, .string x] w fun e w' => e = .returned (.bool true) ∧ Below w.heap.size w w' := by
  have Row := Lib.hid (row1 w f t)
  go_enter Try.func6, Try.ntmps6
  go_wp2_with fail; refine (heavy_any _ _ _ [(f, t)] _ (by simp) (Row.out _ (by simp [go_sem]) (by simp [go_sem]))).mono ?_; rintro e w0 ⟨rfl, rfl⟩
  go_wp2_with fail
  (refine calls_name fun wa hwa => ?_; have wa_s0 : w.heap.size < wa.heap.size := (by rw [hwa]; first | omega | (simp; done) | (simp; omega)); have wa_c0 : wa.cell? ⟨w.heap.size, 0, none⟩ = some (.string f) := (by rw [hwa]; go_simp); have wa_c1 : wa.cell? ⟨w.heap.size, 1, none⟩ = some (.string t) := (by rw [hwa]; go_simp); have wa_b : Below w.heap.size w wa := (by rw [hwa]; exact (by repeat (first | exact Below.refl _ _ | assumption | refine Below.drew ?_ | refine Below.alloc ?_ (by first | omega | (simp; done) | (simp; omega) | (simp at *; omega)) _ | refine Below.setCell ?_ (by first | omega | (simp; done) | (simp; omega) | (simp at *; omega)) _ | refine Below.trans ?_ (Below.mono (by assumption) (by first | omega | (simp; done) | (simp; omega) | (simp at *; omega)))))); clear hwa)
  refine (span_cut f t k _).mono ?_
  (rintro e w1 ⟨rfl, w1_h⟩; obtain ⟨w1_hc, w1_hf⟩ := bcell w1_h; have w1_z := w1_h.size; have w1_b := wa_b.trans (w1_h.mono (by have := wa_b.size; omega)); have w1_le := w1_b.size; have w1_s0 : w.heap.size < w1.heap.size := (by omega); clear w1_h)
  go_wp2_with fail
  (refine calls_name fun wb hwb => ?_; have wb_s0 : w.heap.size < wb.heap.size := (by rw [hwb]; first | omega | (simp; done) | (simp; omega)); have wb_c0 : wb.cell? ⟨w.heap.size, 0, none⟩ = some (.string f) := (by rw [hwb]; go_simp); have wb_c1 : wb.cell? ⟨w.heap.size, 1, none⟩ = some (.string t) := (by rw [hwb]; go_simp); have wb_b : Below w.heap.size w wb := (by rw [hwb]; exact (by repeat (first | exact Below.refl _ _ | assumption | refine Below.drew ?_ | refine Below.alloc ?_ (by first | omega | (simp; done) | (simp; omega) | (simp at *; omega)) _ | refine Below.setCell ?_ (by first | omega | (simp; done) | (simp; omega) | (simp at *; omega)) _ | refine Below.trans ?_ (Below.mono (by assumption) (by first | omega | (simp; done) | (simp; omega) | (simp at *; omega)))))); clear hwb)
  refine (satrapyref12_cut f t k _).mono ?_
  (rintro e w2 ⟨rfl, w2_h⟩; obtain ⟨w2_hc, w2_hf⟩ := bcell w2_h; have w2_z := w2_h.size; have w2_b := wb_b.trans (w2_h.mono (by have := wb_b.size; omega)); have w2_le := w2_b.size; have w2_s0 : w.heap.size < w2.heap.size := (by omega); clear w2_h)
  go_wp2_with fail
  (refine calls_name fun wc hwc => ?_; have wc_b : Below w.heap.size w wc := (by rw [hwc]; exact (by repeat (first | exact Below.refl _ _ | assumption | refine Below.drew ?_ | refine Below.alloc ?_ (by first | omega | (simp; done) | (simp; omega) | (simp at *; omega)) _ | refine Below.setCell ?_ (by first | omega | (simp; done) | (simp; omega) | (simp at *; omega)) _ | refine Below.trans ?_ (Below.mono (by assumption) (by first | omega | (simp; done) | (simp; omega) | (simp at *; omega)))))); clear hwc)
  refine (known_any _).mono ?_
  (rintro e w3 ⟨rfl, w3_h⟩; obtain ⟨w3_hc, w3_hf⟩ := bcell w3_h; have w3_z := w3_h.size; have w3_b := wc_b.trans (w3_h.mono (by have := wc_b.size; omega)); have w3_le := w3_b.size; clear w3_h)
  go_wp2_with fail
  go_ret; exact ⟨rfl, (by repeat (first | exact Below.refl _ _ | assumption | refine Below.drew ?_ | refine Below.alloc ?_ (by first | omega | (simp; done) | (simp; omega) | (simp at *; omega)) _ | refine Below.setCell ?_ (by first | omega | (simp; done) | (simp; omega) | (simp at *; omega)) _ | refine Below.trans ?_ (Below.mono (by assumption) (by first | omega | (simp; done) | (simp; omega) | (simp at *; omega)))))⟩
set_option maxHeartbeats 2000000 in
theorem back_yes (f t k x : ByteArray) (w : World) (h1 : tooB [(f, t)] = false) (h2 : ¬ (200 : Int) < k.size) (h3 : ¬ (200 : Int) < x.size) (hok : cutOk f t k = true)
    (hw1 : withinB f k f t = true) (hw2 : withinB k t f t = true) (hj : joinOk f k k t = true) (hin : inB f t x = (inB f k x != inB k t x)) (hnot : (inB f k x && inB k t x) = false) :
    Calls Try.prog 6 #[.agg #[.string f, .string t], .string k, .string x] w fun e w' => e = .returned (.bool true) ∧ Below w.heap.size w w' := by
  have Row := Lib.hid (row1 w f t)
  have Hin := Lib.hid hin
  have Hnot := Lib.hid hnot
  clear hin hnot
  go_enter Try.func6, Try.ntmps6
  go_wp2_with fail; refine (heavy_any _ _ _ [(f, t)] _ (by simp) (Row.out _ (by simp [go_sem]) (by simp [go_sem]))).mono ?_; rintro e w0 ⟨rfl, rfl⟩
  go_wp2_with fail
  (refine calls_name fun wa hwa => ?_; have wa_s0 : w.heap.size < wa.heap.size := (by rw [hwa]; first | omega | (simp; done) | (simp; omega)); have wa_c0 : wa.cell? ⟨w.heap.size, 0, none⟩ = some (.string f) := (by rw [hwa]; go_simp); have wa_c1 : wa.cell? ⟨w.heap.size, 1, none⟩ = some (.string t) := (by rw [hwa]; go_simp); have wa_b : Below w.heap.size w wa := (by rw [hwa]; exact (by repeat (first | exact Below.refl _ _ | assumption | refine Below.drew ?_ | refine Below.alloc ?_ (by first | omega | (simp; done) | (simp; omega) | (simp at *; omega)) _ | refine Below.setCell ?_ (by first | omega | (simp; done) | (simp; omega) | (simp at *; omega)) _ | refine Below.trans ?_ (Below.mono (by assumption) (by first | omega | (simp; done) | (simp; omega) | (simp at *; omega)))))); clear hwa)
  refine (span_cut f t k _).mono ?_
  rw [hok]; simp only [sel, if_true]
  (rintro e w1 ⟨rfl, w1_h⟩; obtain ⟨w1_hc, w1_hf⟩ := bcell w1_h; have w1_z := w1_h.size; have w1_b := wa_b.trans (w1_h.mono (by have := wa_b.size; omega)); have w1_le := w1_b.size; have w1_s0 : w.heap.size < w1.heap.size := (by omega); clear w1_h)
  go_wp2_with fail
  (refine calls_name fun wb hwb => ?_; have wb_s0 : w.heap.size < wb.heap.size := (by rw [hwb]; first | omega | (simp; done) | (simp; omega)); have wb_s1 : w1.heap.size < wb.heap.size := (by rw [hwb]; first | omega | (simp; done) | (simp; omega)); have wb_s2 : w1.heap.size + 1 < wb.heap.size := (by rw [hwb]; first | omega | (simp; done) | (simp; omega)); have wb_c0 : wb.cell? ⟨w.heap.size, 0, none⟩ = some (.string f) := (by rw [hwb]; go_simp); have wb_c1 : wb.cell? ⟨w.heap.size, 1, none⟩ = some (.string t) := (by rw [hwb]; go_simp); have wb_c2 : wb.cell? ⟨w1.heap.size, 0, none⟩ = some (.string f) := (by rw [hwb]; go_simp); have wb_c3 : wb.cell? ⟨w1.heap.size, 1, none⟩ = some (.string k) := (by rw [hwb]; go_simp); have wb_c4 : wb.cell? ⟨w1.heap.size + 1, 0, none⟩ = some (.string k) := (by rw [hwb]; go_simp); have wb_c5 : wb.cell? ⟨w1.heap.size + 1, 1, none⟩ = some (.string t) := (by rw [hwb]; go_simp); have wb_b : Below w.heap.size w wb := (by rw [hwb]; exact (by repeat (first | exact Below.refl _ _ | assumption | refine Below.drew ?_ | refine Below.alloc ?_ (by first | omega | (simp; done) | (simp; omega) | (simp at *; omega)) _ | refine Below.setCell ?_ (by first | omega | (simp; done) | (simp; omega) | (simp at *; omega)) _ | refine Below.trans ?_ (Below.mono (by assumption) (by first | omega | (simp; done) | (simp; omega) | (simp at *; omega)))))); clear hwb)
  refine (span_join f k k t _).mono ?_
  rw [hj]; simp only [sel, if_true]
  (rintro e w2 ⟨rfl, w2_h⟩; obtain ⟨w2_hc, w2_hf⟩ := bcell w2_h; have w2_z := w2_h.size; have w2_b := wb_b.trans (w2_h.mono (by have := wb_b.size; omega)); have w2_le := w2_b.size; have w2_s0 : w.heap.size < w2.heap.size := (by omega); have w2_s1 : w1.heap.size < w2.heap.size := (by omega); have w2_s2 : w1.heap.size + 1 < w2.heap.size := (by omega); clear w2_h)
  go_wp2_with fail
  (refine wp_name fun w3 hw3 => ?_; have w3_s0 : w.heap.size < w3.heap.size := (by rw [hw3]; first | omega | (simp; done) | (simp; omega)); have w3_s1 : w1.heap.size < w3.heap.size := (by rw [hw3]; first | omega | (simp; done) | (simp; omega)); have w3_s2 : w1.heap.size + 1 < w3.heap.size := (by rw [hw3]; first | omega | (simp; done) | (simp; omega)); have w3_s3 : w2.heap.size < w3.heap.size := (by rw [hw3]; first | omega | (simp; done) | (simp; omega)); have w3_c0 : w3.cell? ⟨w.heap.size, 0, none⟩ = some (.string f) := (by rw [hw3]; go_simp); have w3_c1 : w3.cell? ⟨w.heap.size, 1, none⟩ = some (.string t) := (by rw [hw3]; go_simp); have w3_c2 : w3.cell? ⟨w1.heap.size, 0, none⟩ = some (.string f) := (by rw [hw3]; go_simp); have w3_c3 : w3.cell? ⟨w1.heap.size, 1, none⟩ = some (.string k) := (by rw [hw3]; go_simp); have w3_c4 : w3.cell? ⟨w1.heap.size + 1, 0, none⟩ = some (.string k) := (by rw [hw3]; go_simp); have w3_c5 : w3.cell? ⟨w1.heap.size + 1, 1, none⟩ = some (.string t) := (by rw [hw3]; go_simp); have w3_c6 : w3.cell? ⟨w2.heap.size, 0, none⟩ = some (.string f) := (by rw [hw3]; go_simp); have w3_c7 : w3.cell? ⟨w2.heap.size, 1, none⟩ = some (.string t) := (by rw [hw3]; go_simp); have w3_b : Below w.heap.size w w3 := (by rw [hw3]; exact (by repeat (first | exact Below.refl _ _ | assumption | refine Below.drew ?_ | refine Below.alloc ?_ (by first | omega | (simp; done) | (simp; omega) | (simp at *; omega)) _ | refine Below.setCell ?_ (by first | omega | (simp; done) | (simp; omega) | (simp at *; omega)) _ | refine Below.trans ?_ (Below.mono (by assumption) (by first | omega | (simp; done) | (simp; omega) | (simp at *; omega)))))); clear hw3)
  cases ha : inB f k x <;> cases hb : inB k t x <;> (have hc : inB f t x = _ := Hin.out; simp only [ha, hb, Bool.bne_true, Bool.bne_false, Bool.not_true, Bool.not_false] at hc)
  rotate_right
  · have := Hnot.out; rw [ha, hb] at this; cases this
  all_goals
    (refine wp_region_gr (by kernel_rfl) (by kernel_rfl) ?_; (repeat (go_big_quiet_step ((first | (go_at_call 17; exact calls_gr (calls_bool (by assumption) (span_within _ _ _ _ _))) | (go_at_call 14; exact calls_gr (calls_bool (by assumption) (span_in _ _ _ _))) | (go_at_call 16; exact calls_gr (known_any _)))))); refine wpQuiet_nil ?_; intro _ hw'; obtain ⟨g, hw''⟩ := hw'; subst hw'')
    go_wp2_with fail
    go_ret; exact ⟨rfl, w3_b.trans ((gr_below w3 g).mono (by omega))⟩
theorem back_walk (f t k x : ByteArray) (w : World) : Calls Try.prog 6 #[.agg #[.string f, .string t], .string k, .string x] w fun e w' => e = .returned (.bool true) ∧ Below w.heap.size w w' := by
  cases h1 : tooB [(f, t)] with
  | true => exact back_heavy f t k x w h1
  | false =>
    by_cases h2 : (200 : Int) < k.size
    · exact back_long f t k x w h1 h2
    by_cases h3 : (200 : Int) < x.size
    · exact back_longer f t k x w h1 h2 h3
    cases hok : cutOk f t k with
    | false => exact back_no f t k x w h1 h2 h3 hok
    | true =>
      obtain ⟨-, -, hj, a, b⟩ := cut_parts hok
      obtain ⟨c, d⟩ := cut_in (x := x) hok
      exact back_yes f t k x w h1 h2 h3 hok a b hj c d

namespace SpanBackLift
open Go.ChangeShapes Go.WideShapes Go.ChangeAt Go.RowKit Go.Joins Go.Deep
open Go.ChangeMaps (open_string shut_string)

theorem own : ownKnob Try.prog.godebug = none := by kernel_rfl
theorem laidOut : laidOutB Try.prog = true := by kernel_rfl

set_option maxHeartbeats 1000000 in
set_option maxRecDepth 100000 in
theorem lifted (os : Os) (started : os.Started) (H : Type) (enc : TypeId × Value → H) :
    ReturnsInHanded {} Try.checked os 6 .any (Rows.spanBackSpec.pre6 enc Try.prog Try.f6 Rows.spanBackRow.domain false) (Rows.spanBackSpec.post enc Try.prog Try.f6 false true false false) := by
  refine returnsInHanded_of_change (C := Try.checked) own started (by kernel_rfl) Try.func6
    (ChangeSpec.witness6 (enc := enc) (C := Try.checked) false ⟨#[], #[.agg #[.string ⟨#[]⟩, .string ⟨#[]⟩], .string ⟨#[]⟩, .string ⟨#[]⟩], []⟩ 8 (by kernel_rfl) (by kernel_rfl) (by kernel_rfl) (by kernel_rfl)) ?_
  intro W base args ds gs before hval0 hW hcnd _
  have hval : ∀ (j : Nat) t v, Try.f6.params[j]? = some t → args[j]? = some v → Value.okWide Try.prog W .any base t v := hval0
  have hW' := hW
  obtain ⟨p, q, hA0, hV, rfl, hfz, hnd⟩ := hW
  have hA : DataW.TrodAll enc Try.prog W 0 (fun _ => true) true Try.f6.params.toList args.toList ds p := hA0
  rw [Try.params6] at hA hval
  obtain ⟨v0, vs0, d0, ds0, p0, q0, hargs, rfl, rfl, h0, r0⟩ := trodAll_cons hA
  obtain ⟨v1, vs1, d1, ds1, p1, q1, rfl, rfl, rfl, h1, r1⟩ := trodAll_cons r0
  obtain ⟨v2, vs2, d2, ds2, p2, q2, rfl, rfl, rfl, h2, r2⟩ := trodAll_cons r1
  obtain ⟨rfl, rfl, rfl⟩ := trodAll_nil r2
  obtain rfl : args = #[v0, v1, v2] := by cases args; simp_all
  obtain ⟨rfl, rfl⟩ := trodVars_none hV
  have k0 := h0
  have lt0 : ∀ x ∈ p0, x.block < W.heap.size := by obtain ⟨m, hm⟩ := k0; exact DataW.trod_lt m _ _ _ hm
  have k1 := h1
  have lt1 : ∀ x ∈ p1, x.block < W.heap.size := by obtain ⟨m, hm⟩ := k1; exact DataW.trod_lt m _ _ _ hm
  have k2 := h2
  have lt2 : ∀ x ∈ p2, x.block < W.heap.size := by obtain ⟨m, hm⟩ := k2; exact DataW.trod_lt m _ _ _ hm
  have post : ∀ e W', e = Ending.returned (.bool true) → Below W.heap.size W W' → ∃ v, e = .returned v ∧ Rows.spanBackSpec.post enc Try.prog Try.f6 false true false false W #[v0, v1, v2] v W' := by
    intro e W' he bel
    subst he
    exact ⟨_, rfl, _, _, _, [], _, [], hW', trodAll_mk1 (shut_bool Try.underlying4 _), (trodAll_cons_mk (Below.trod laidOut (by kernel_rfl) (of_decide_eq_true (by kernel_rfl)) k0 bel lt0) (trodAll_cons_mk (Below.trod laidOut (by kernel_rfl) (of_decide_eq_true (by kernel_rfl)) k1 bel lt1) (trodAll_cons_mk (Below.trod laidOut (by kernel_rfl) (of_decide_eq_true (by kernel_rfl)) k2 bel lt2) trodAll_mk0))), rfl, bel.frame _, fun h => by cases h⟩
  clear hW' hcnd hfz hnd hA0 hA hval0
  obtain ⟨c0, c0', y0, y0', m0, rfl, -, -, hy0, hy0'⟩ := open_agg2 Try.underlying23 (by kernel_rfl) (by kernel_rfl : Try.prog.cellsOf 23 = 2) (hval 0 23 v0 rfl rfl) h0; obtain ⟨f, e0, -, -⟩ := DataW.trod_string Try.underlying9 hy0; obtain ⟨t, e0', -, -⟩ := DataW.trod_string Try.underlying9 hy0'; simp at e0 e0'; subst e0 e0'
  obtain ⟨k, rfl, -, -, -⟩ := open_string Try.underlying9 (hval 1 9 v1 rfl rfl) h1
  obtain ⟨x, rfl, -, -, -⟩ := open_string Try.underlying9 (hval 2 9 v2 rfl rfl) h2
  exact (back_walk f t k x W).mono fun e W' ⟨he, bel⟩ => post e W' he bel

theorem over : Rows.spanBackRow.holds Try.pinned (OpenSpec.ofChange Rows.spanBackSpec) :=
  OpenClaim.holds_of_wide 6 Try.f6 rfl rfl rfl rfl rfl rfl rfl ⟨rfl, rfl, rfl, rfl, rfl⟩ rfl rfl rfl rfl rfl (by kernel_rfl) Try.func6 (by kernel_rfl)
    (of_decide_eq_true (by kernel_rfl)) (by unfold Func.isWrapper; first | (rw [if_pos (by decide +kernel)]; kernel_rfl) | (rw [if_neg (by decide +kernel)]; exact ⟨rfl, rfl⟩))
    (fun os started H enc _ => lifted os started H enc)
end SpanBackLift

/-- The statement. -/
theorem spanBack_holds : Rows.SpanBackSaid := SpanBackLift.over
#print axioms spanBack_holds
end Go.Proofs.Ytkggjcfjehbbnaa
