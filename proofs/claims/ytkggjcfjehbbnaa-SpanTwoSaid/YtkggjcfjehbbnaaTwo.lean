/- The law SpanTwo: any two spans: whether one lies within the other, whether they are one. -/
import Derived.Test.YtkggjcfjehbbnaaW2
import Derived.Test.YtkggjcfjehbbnaaRows
import Derived.ProofKit
import Derived.OpenShut
import Derived.ShutString
import Derived.Lib.SmallJoins
namespace Go.Proofs.Ytkggjcfjehbbnaa
open Go.RowKit
theorem row2 (w : World) (a a' b b' : ByteArray) : ∀ W : World, W.cell? ⟨w.heap.size + 1 + 1, 0, none⟩ = some (.string a) → W.cell? ⟨w.heap.size + 1 + 1, 1, none⟩ = some (.string a') → W.cell? ⟨w.heap.size + 1 + 1, 2, none⟩ = some (.string b) → W.cell? ⟨w.heap.size + 1 + 1, 3, none⟩ = some (.string b') → SpanRow W (w.heap.size + 1 + 1) 0 [(a, a'), (b, b')] := by
  intro W h1 h2 h3 h4 i hi
  rcases (show i = 0 ∨ i = 1 from by simp at hi; omega) with rfl | rfl
  · exact ⟨by simpa using h1, by simpa using h2⟩
  · exact ⟨by simpa using h3, by simpa using h4⟩
set_option maxHeartbeats 2000000 in
theorem two_walk (f t f' t' : ByteArray) (w : World) :
    Calls Try.prog 5 #[.agg #[.string f, .string t], .agg #[.string f', .string t']] w fun e w' => e = .returned (.bool true) ∧ Below w.heap.size w w' := by
  have Row := Lib.hid (row2 w f t f' t')
  cases h1 : tooB [(f, t), (f', t')]
  rotate_left
  · go_enter Try.func5, Try.ntmps5
    go_wp2_with fail; refine (heavy_any _ _ _ [(f, t), (f', t')] _ (by simp) (Row.out _ (by simp [go_sem]) (by simp [go_sem]) (by simp [go_sem]) (by simp [go_sem]))).mono ?_; rintro e w0 ⟨rfl, rfl⟩
    go_wp2_with fail; go_ret; exact ⟨rfl, (by repeat (first | exact Below.refl _ _ | assumption | refine Below.drew ?_ | refine Below.alloc ?_ (by first | omega | (simp; done) | (simp; omega) | (simp at *; omega)) _ | refine Below.setCell ?_ (by first | omega | (simp; done) | (simp; omega) | (simp at *; omega)) _ | refine Below.trans ?_ (Below.mono (by assumption) (by first | omega | (simp; done) | (simp; omega) | (simp at *; omega)))))⟩
  · go_enter Try.func5, Try.ntmps5
    go_wp2_with fail; refine (heavy_any _ _ _ [(f, t), (f', t')] _ (by simp) (Row.out _ (by simp [go_sem]) (by simp [go_sem]) (by simp [go_sem]) (by simp [go_sem]))).mono ?_; rintro e w0 ⟨rfl, rfl⟩
    go_wp2_with fail
    (refine calls_name fun wa hwa => ?_; have wa_s0 : w.heap.size < wa.heap.size := (by rw [hwa]; first | omega | (simp; done) | (simp; omega)); have wa_s1 : w.heap.size + 1 < wa.heap.size := (by rw [hwa]; first | omega | (simp; done) | (simp; omega)); have wa_c0 : wa.cell? ⟨w.heap.size, 0, none⟩ = some (.string f) := (by rw [hwa]; go_simp); have wa_c1 : wa.cell? ⟨w.heap.size, 1, none⟩ = some (.string t) := (by rw [hwa]; go_simp); have wa_c2 : wa.cell? ⟨w.heap.size + 1, 0, none⟩ = some (.string f') := (by rw [hwa]; go_simp); have wa_c3 : wa.cell? ⟨w.heap.size + 1, 1, none⟩ = some (.string t') := (by rw [hwa]; go_simp); have wa_b : Below w.heap.size w wa := (by rw [hwa]; exact (by repeat (first | exact Below.refl _ _ | assumption | refine Below.drew ?_ | refine Below.alloc ?_ (by first | omega | (simp; done) | (simp; omega) | (simp at *; omega)) _ | refine Below.setCell ?_ (by first | omega | (simp; done) | (simp; omega) | (simp at *; omega)) _ | refine Below.trans ?_ (Below.mono (by assumption) (by first | omega | (simp; done) | (simp; omega) | (simp at *; omega)))))); clear hwa)
    refine (span_join _ _ _ _ _).mono ?_
    (rintro e w1 ⟨rfl, w1_h⟩; obtain ⟨w1_hc, w1_hf⟩ := bcell w1_h; have w1_z := w1_h.size; have w1_b := wa_b.trans (w1_h.mono (by have := wa_b.size; omega)); have w1_le := w1_b.size; have w1_s0 : w.heap.size < w1.heap.size := (by omega); have w1_s1 : w.heap.size + 1 < w1.heap.size := (by omega); clear w1_h)
    go_wp2_with fail
    (refine calls_name fun wb hwb => ?_; have wb_s0 : w.heap.size < wb.heap.size := (by rw [hwb]; first | omega | (simp; done) | (simp; omega)); have wb_s1 : w.heap.size + 1 < wb.heap.size := (by rw [hwb]; first | omega | (simp; done) | (simp; omega)); have wb_s2 : w1.heap.size < wb.heap.size := (by rw [hwb]; first | omega | (simp; done) | (simp; omega)); have wb_c0 : wb.cell? ⟨w.heap.size, 0, none⟩ = some (.string f) := (by rw [hwb]; go_simp); have wb_c1 : wb.cell? ⟨w.heap.size, 1, none⟩ = some (.string t) := (by rw [hwb]; go_simp); have wb_c2 : wb.cell? ⟨w.heap.size + 1, 0, none⟩ = some (.string f') := (by rw [hwb]; go_simp); have wb_c3 : wb.cell? ⟨w.heap.size + 1, 1, none⟩ = some (.string t') := (by rw [hwb]; go_simp); have wb_c4 : wb.cell? ⟨w1.heap.size, 0, none⟩ = some (.string (sel (joinOk f t f' t') f)) := (by rw [hwb]; go_simp); have wb_c5 : wb.cell? ⟨w1.heap.size, 1, none⟩ = some (.string (sel (joinOk f t f' t') t')) := (by rw [hwb]; go_simp); have wb_b : Below w.heap.size w wb := (by rw [hwb]; exact (by repeat (first | exact Below.refl _ _ | assumption | refine Below.drew ?_ | refine Below.alloc ?_ (by first | omega | (simp; done) | (simp; omega) | (simp at *; omega)) _ | refine Below.setCell ?_ (by first | omega | (simp; done) | (simp; omega) | (simp at *; omega)) _ | refine Below.trans ?_ (Below.mono (by assumption) (by first | omega | (simp; done) | (simp; omega) | (simp at *; omega)))))); clear hwb)
    refine (satrapyref12_join _ _ _ _ _).mono ?_
    (rintro e w2 ⟨rfl, w2_h⟩; obtain ⟨w2_hc, w2_hf⟩ := bcell w2_h; have w2_z := w2_h.size; have w2_b := wb_b.trans (w2_h.mono (by have := wb_b.size; omega)); have w2_le := w2_b.size; have w2_s0 : w.heap.size < w2.heap.size := (by omega); have w2_s1 : w.heap.size + 1 < w2.heap.size := (by omega); have w2_s2 : w1.heap.size < w2.heap.size := (by omega); clear w2_h)
    go_wp2_with fail
    (refine wp_name fun w3 hw3 => ?_; have w3_s0 : w.heap.size < w3.heap.size := (by rw [hw3]; first | omega | (simp; done) | (simp; omega)); have w3_s1 : w.heap.size + 1 < w3.heap.size := (by rw [hw3]; first | omega | (simp; done) | (simp; omega)); have w3_s2 : w1.heap.size < w3.heap.size := (by rw [hw3]; first | omega | (simp; done) | (simp; omega)); have w3_s3 : w2.heap.size < w3.heap.size := (by rw [hw3]; first | omega | (simp; done) | (simp; omega)); have w3_c0 : w3.cell? ⟨w.heap.size, 0, none⟩ = some (.string f) := (by rw [hw3]; go_simp); have w3_c1 : w3.cell? ⟨w.heap.size, 1, none⟩ = some (.string t) := (by rw [hw3]; go_simp); have w3_c2 : w3.cell? ⟨w.heap.size + 1, 0, none⟩ = some (.string f') := (by rw [hw3]; go_simp); have w3_c3 : w3.cell? ⟨w.heap.size + 1, 1, none⟩ = some (.string t') := (by rw [hw3]; go_simp); have w3_c4 : w3.cell? ⟨w1.heap.size, 0, none⟩ = some (.string (sel (joinOk f t f' t') f)) := (by rw [hw3]; go_simp); have w3_c5 : w3.cell? ⟨w1.heap.size, 1, none⟩ = some (.string (sel (joinOk f t f' t') t')) := (by rw [hw3]; go_simp); have w3_c6 : w3.cell? ⟨w2.heap.size, 0, none⟩ = some (.string (sel (joinOk f t f' t') f)) := (by rw [hw3]; go_simp); have w3_c7 : w3.cell? ⟨w2.heap.size, 1, none⟩ = some (.string (sel (joinOk f t f' t') t')) := (by rw [hw3]; go_simp); have w3_b : Below w.heap.size w w3 := (by rw [hw3]; exact (by repeat (first | exact Below.refl _ _ | assumption | refine Below.drew ?_ | refine Below.alloc ?_ (by first | omega | (simp; done) | (simp; omega) | (simp at *; omega)) _ | refine Below.setCell ?_ (by first | omega | (simp; done) | (simp; omega) | (simp at *; omega)) _ | refine Below.trans ?_ (Below.mono (by assumption) (by first | omega | (simp; done) | (simp; omega) | (simp at *; omega)))))); clear hw3)
    go_region_held3 (fun W => Below w3.heap.size w3 W ∧ ∀ b o, b < w3.heap.size → W.cell? ⟨b, o, none⟩ = w3.cell? ⟨b, o, none⟩) (first | exact stay_drew _ | exact stay_next (by assumption) (by assumption)) (first | (go_at_call 17; refine (span_within _ _ _ _ _).mono ?_; rintro e W' ⟨rfl, hbw⟩) | (go_at_call 20; refine (satrapyref12_within _ _ _ _ _).mono ?_; rintro e W' ⟨rfl, hbw⟩) | (go_at_call 16; refine (known_any _).mono ?_; rintro e W' ⟨rfl, hbw⟩))
    go_wp2_with fail
    go_ret; exact ⟨rfl, w3_b.trans (Below.mono (stay_below (by assumption)) (by omega))⟩

namespace SpanTwoLift
open Go.ChangeShapes Go.WideShapes Go.ChangeAt Go.RowKit Go.Joins Go.Deep
open Go.ChangeMaps (open_string shut_string)

theorem own : ownKnob Try.prog.godebug = none := by kernel_rfl
theorem laidOut : laidOutB Try.prog = true := by kernel_rfl

set_option maxHeartbeats 1000000 in
set_option maxRecDepth 100000 in
theorem lifted (os : Os) (started : os.Started) (H : Type) (enc : TypeId × Value → H) :
    ReturnsInHanded {} Try.checked os 5 .any (Rows.spanTwoSpec.pre6 enc Try.prog Try.f5 Rows.spanTwoRow.domain false) (Rows.spanTwoSpec.post enc Try.prog Try.f5 false true false false) := by
  refine returnsInHanded_of_change (C := Try.checked) own started (by kernel_rfl) Try.func5
    (ChangeSpec.witness6 (enc := enc) (C := Try.checked) false ⟨#[], #[.agg #[.string ⟨#[]⟩, .string ⟨#[]⟩], .agg #[.string ⟨#[]⟩, .string ⟨#[]⟩]], []⟩ 8 (by kernel_rfl) (by kernel_rfl) (by kernel_rfl) (by kernel_rfl)) ?_
  intro W base args ds gs before hval0 hW hcnd _
  have hval : ∀ (j : Nat) t v, Try.f5.params[j]? = some t → args[j]? = some v → Value.okWide Try.prog W .any base t v := hval0
  have hW' := hW
  obtain ⟨p, q, hA0, hV, rfl, hfz, hnd⟩ := hW
  have hA : DataW.TrodAll enc Try.prog W 0 (fun _ => true) true Try.f5.params.toList args.toList ds p := hA0
  rw [Try.params5] at hA hval
  obtain ⟨v0, vs0, d0, ds0, p0, q0, hargs, rfl, rfl, h0, r0⟩ := trodAll_cons hA
  obtain ⟨v1, vs1, d1, ds1, p1, q1, rfl, rfl, rfl, h1, r1⟩ := trodAll_cons r0
  obtain ⟨rfl, rfl, rfl⟩ := trodAll_nil r1
  obtain rfl : args = #[v0, v1] := by cases args; simp_all
  obtain ⟨rfl, rfl⟩ := trodVars_none hV
  have k0 := h0
  have lt0 : ∀ x ∈ p0, x.block < W.heap.size := by obtain ⟨m, hm⟩ := k0; exact DataW.trod_lt m _ _ _ hm
  have k1 := h1
  have lt1 : ∀ x ∈ p1, x.block < W.heap.size := by obtain ⟨m, hm⟩ := k1; exact DataW.trod_lt m _ _ _ hm
  have post : ∀ e W', e = Ending.returned (.bool true) → Below W.heap.size W W' → ∃ v, e = .returned v ∧ Rows.spanTwoSpec.post enc Try.prog Try.f5 false true false false W #[v0, v1] v W' := by
    intro e W' he bel
    subst he
    exact ⟨_, rfl, _, _, _, [], _, [], hW', trodAll_mk1 (shut_bool Try.underlying4 _), (trodAll_cons_mk (Below.trod laidOut (by kernel_rfl) (of_decide_eq_true (by kernel_rfl)) k0 bel lt0) (trodAll_cons_mk (Below.trod laidOut (by kernel_rfl) (of_decide_eq_true (by kernel_rfl)) k1 bel lt1) trodAll_mk0)), rfl, bel.frame _, fun h => by cases h⟩
  clear hW' hcnd hfz hnd hA0 hA hval0
  obtain ⟨c0, c0', y0, y0', m0, rfl, -, -, hy0, hy0'⟩ := open_agg2 Try.underlying23 (by kernel_rfl) (by kernel_rfl : Try.prog.cellsOf 23 = 2) (hval 0 23 v0 rfl rfl) h0; obtain ⟨f, e0, -, -⟩ := DataW.trod_string Try.underlying9 hy0; obtain ⟨t, e0', -, -⟩ := DataW.trod_string Try.underlying9 hy0'; simp at e0 e0'; subst e0 e0'
  obtain ⟨c1, c1', y1, y1', m1, rfl, -, -, hy1, hy1'⟩ := open_agg2 Try.underlying23 (by kernel_rfl) (by kernel_rfl : Try.prog.cellsOf 23 = 2) (hval 1 23 v1 rfl rfl) h1; obtain ⟨f', e1, -, -⟩ := DataW.trod_string Try.underlying9 hy1; obtain ⟨t', e1', -, -⟩ := DataW.trod_string Try.underlying9 hy1'; simp at e1 e1'; subst e1 e1'
  exact (two_walk f t f' t' W).mono fun e W' ⟨he, bel⟩ => post e W' he bel

theorem over : Rows.spanTwoRow.holds Try.pinned (OpenSpec.ofChange Rows.spanTwoSpec) :=
  OpenClaim.holds_of_wide 5 Try.f5 rfl rfl rfl rfl rfl rfl rfl ⟨rfl, rfl, rfl, rfl, rfl⟩ rfl rfl rfl rfl rfl (by kernel_rfl) Try.func5 (by kernel_rfl)
    (of_decide_eq_true (by kernel_rfl)) (by unfold Func.isWrapper; first | (rw [if_pos (by decide +kernel)]; kernel_rfl) | (rw [if_neg (by decide +kernel)]; exact ⟨rfl, rfl⟩))
    (fun os started H enc _ => lifted os started H enc)
end SpanTwoLift

/-- The statement. -/
theorem spanTwo_holds : Rows.SpanTwoSaid := SpanTwoLift.over
#print axioms spanTwo_holds
end Go.Proofs.Ytkggjcfjehbbnaa
