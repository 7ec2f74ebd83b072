/- A change that came in, opened (the five fields after the guide's block); a nil Dir has nothing: the statement DirOfNothing, for every change and key. -/
import Derived.Test.YtobnibdeimiinaaDKnown
import Derived.Test.YtobnibdeimiinaaDMaps
import Derived.Test.YtobnibdeimiinaaOpen
import Derived.Test.YtobnibdeimiinaaRows
namespace Go.Proofs.Ytobnibdeimiinaa
section
open Go.Joins Go.ChangeShapes Go.WideShapes Go.RowKit Go.Deep
variable {H : Type} {enc : TypeId × Value → H} {P : Program} {w : World} {base : Nat} {spare : Nat → Bool} {held : Bool}
theorem open_agg5 {r : Reach} {b0 : Nat} {t : TypeId} {f0 f1 f2 f3 f4 : Field} {v : Value} {d : DataW H} {p : List MemPlace} (hs : P.underlying t = some (.struct #[f0, f1, f2, f3, f4])) (hone : oneCellFields P #[f0, f1, f2, f3, f4] = true) (hC : P.cellsOf t = 5)
    (hv : Value.okWide P w r b0 t v) (h : DataW.Trod enc P w base spare held t v d p) :
    ∃ (v0 v1 v2 v3 v4 : Value) (y0 y1 y2 y3 y4 : DataW H × List MemPlace) (n : Nat), v = .agg #[v0, v1, v2, v3, v4] ∧ d = .agg [y0.1, y1.1, y2.1, y3.1, y4.1] ∧ p = y0.2 ++ (y1.2 ++ (y2.2 ++ (y3.2 ++ y4.2))) ∧
      DataW.trod enc P w base spare held n f0.type [v0] = some y0 ∧ DataW.trod enc P w base spare held n f1.type [v1] = some y1 ∧ DataW.trod enc P w base spare held n f2.type [v2] = some y2 ∧ DataW.trod enc P w base spare held n f3.type [v3] = some y3 ∧ DataW.trod enc P w base spare held n f4.type [v4] = some y4 := by
  obtain ⟨cs, rfl, hsz⟩ := okWide_struct hs hv
  obtain ⟨l⟩ := cs
  match l, hsz.trans hC with
  | [c0, c1, c2, c3, c4], _ =>
    obtain ⟨fuel, hf⟩ := h
    obtain ⟨xs, n, _, hx, _, hlen, hg⟩ := DataW.trod_struct hs hf
    obtain ⟨o0, k0⟩ := hone_of hone 0 f0 rfl
    obtain ⟨o1, k1⟩ := hone_of hone 1 f1 rfl
    obtain ⟨o2, k2⟩ := hone_of hone 2 f2 rfl
    obtain ⟨o3, k3⟩ := hone_of hone 3 f3 rfl
    obtain ⟨o4, k4⟩ := hone_of hone 4 f4 rfl
    match xs, hlen with
    | [y0, y1, y2, y3, y4], _ =>
      simp only [Prod.mk.injEq] at hx
      exact ⟨c0, c1, c2, c3, c4, y0, y1, y2, y3, y4, n, rfl, by simpa using hx.1, by simpa using hx.2, by simpa [Value.cells, o0, k0] using hg 0 f0 rfl, by simpa [Value.cells, o1, k1] using hg 1 f1 rfl, by simpa [Value.cells, o2, k2] using hg 2 f2 rfl, by simpa [Value.cells, o3, k3] using hg 3 f3 rfl, by simpa [Value.cells, o4, k4] using hg 4 f4 rfl⟩
set_option maxRecDepth 20000 in
theorem open_ch {v : Value} {d : DataW H} {p : List MemPlace} {b : Nat} (hv : Value.okWide Try.prog w .any b 34 v) (h : DataW.Trod enc Try.prog w 0 (fun _ => true) true 34 v d p) :
    ∃ c : Ch, v = .agg #[.int .i64 c.kind, .int .i64 c.zone, .int .i64 c.epoch, .int .i64 c.tt, .string c.key] := by
  obtain ⟨v0, v1, v2, v3, v4, y0, y1, y2, y3, y4, n, rfl, -, -, h0, h1, h2, h3, h4⟩ := open_agg5 Try.underlying34 (by kernel_rfl) (by kernel_rfl) hv h
  obtain ⟨n0, q0, -⟩ := DataW.trod_int Try.underlying3 h0
  obtain ⟨n1, q1, -⟩ := DataW.trod_int Try.underlying3 h1
  obtain ⟨n2, q2, -⟩ := DataW.trod_int Try.underlying3 h2
  obtain ⟨n3, q3, -⟩ := DataW.trod_int Try.underlying3 h3
  obtain ⟨s4, q4, -⟩ := DataW.trod_string Try.underlying9 h4
  simp only [List.cons.injEq, and_true] at q0 q1 q2 q3 q4
  subst q0 q1 q2 q3 q4
  exact ⟨⟨n0, n1, n2, n3, s4⟩, rfl⟩
end
open Go.RowKit Go.Joins

theorem apply_nil (c : Ch) (w : World) : Calls Try.prog 15 #[.pointer none, .agg #[.int .i64 c.kind, .int .i64 c.zone, .int .i64 c.epoch, .int .i64 c.tt, .string c.key]] w fun e w' => e = .returned (.bool false) ∧ Below w.heap.size w w' := by
  go_enter Try.func15, Try.ntmps15
  go_wp2_with fail
  go_ret
  exact ⟨rfl, (by repeat (first | with_reducible exact Below.refl _ _ | with_reducible assumption | with_reducible refine Below.drew ?_ | with_reducible refine below_drawn ?_ | with_reducible refine Below.alloc ?_ (by first | omega | (simp; done) | (simp; omega) | (simp at *; omega)) _ | with_reducible refine Below.setCell ?_ (by first | omega | (simp; done) | (simp; omega) | (simp at *; omega)) _ | with_reducible refine Below.trans ?_ (Below.mono (by assumption) (by first | omega | (simp; done) | (simp; omega) | (simp at *; omega)))))⟩
theorem would_nil (c : Ch) (w : World) : Calls Try.prog 24 #[.pointer none, .agg #[.int .i64 c.kind, .int .i64 c.zone, .int .i64 c.epoch, .int .i64 c.tt, .string c.key]] w fun e w' => e = .returned (.bool false) ∧ Below w.heap.size w w' := by
  go_enter Try.func24, Try.ntmps24
  go_wp2_with fail
  go_ret
  exact ⟨rfl, (by repeat (first | with_reducible exact Below.refl _ _ | with_reducible assumption | with_reducible refine Below.drew ?_ | with_reducible refine below_drawn ?_ | with_reducible refine Below.alloc ?_ (by first | omega | (simp; done) | (simp; omega) | (simp at *; omega)) _ | with_reducible refine Below.setCell ?_ (by first | omega | (simp; done) | (simp; omega) | (simp at *; omega)) _ | with_reducible refine Below.trans ?_ (Below.mono (by assumption) (by first | omega | (simp; done) | (simp; omega) | (simp at *; omega)))))⟩
set_option maxRecDepth 20000 in
set_option maxHeartbeats 2000000 in
theorem nothing_any (c : Ch) (k : ByteArray) (w : World) : Calls Try.prog 10 #[.agg #[.int .i64 c.kind, .int .i64 c.zone, .int .i64 c.epoch, .int .i64 c.tt, .string c.key], .string k] w fun e w' => e = .returned (.bool true) ∧ Below w.heap.size w w' := by
  by_cases q1 : (60 : Int) < c.key.size
  · have e1 : decide ((60 : Int) < c.key.size) = true := by rw [decide_eq_true_eq]; exact q1
    go_enter Try.func10, Try.ntmps10
    go_wp2_with fail
    go_ret
    exact ⟨rfl, (by repeat (first | with_reducible exact Below.refl _ _ | with_reducible assumption | with_reducible refine Below.drew ?_ | with_reducible refine below_drawn ?_ | with_reducible refine Below.alloc ?_ (by first | omega | (simp; done) | (simp; omega) | (simp at *; omega)) _ | with_reducible refine Below.setCell ?_ (by first | omega | (simp; done) | (simp; omega) | (simp at *; omega)) _ | with_reducible refine Below.trans ?_ (Below.mono (by assumption) (by first | omega | (simp; done) | (simp; omega) | (simp at *; omega)))))⟩
  have e1 : decide ((60 : Int) < c.key.size) = false := by rw [decide_eq_false_iff_not]; exact q1
  by_cases q2 : (60 : Int) < k.size
  · have e2 : decide ((60 : Int) < k.size) = true := by rw [decide_eq_true_eq]; exact q2
    go_enter Try.func10, Try.ntmps10
    go_wp2_with fail
    go_ret
    exact ⟨rfl, (by repeat (first | with_reducible exact Below.refl _ _ | with_reducible assumption | with_reducible refine Below.drew ?_ | with_reducible refine below_drawn ?_ | with_reducible refine Below.alloc ?_ (by first | omega | (simp; done) | (simp; omega) | (simp at *; omega)) _ | with_reducible refine Below.setCell ?_ (by first | omega | (simp; done) | (simp; omega) | (simp at *; omega)) _ | with_reducible refine Below.trans ?_ (Below.mono (by assumption) (by first | omega | (simp; done) | (simp; omega) | (simp at *; omega)))))⟩
  have e2 : decide ((60 : Int) < k.size) = false := by rw [decide_eq_false_iff_not]; exact q2
  clear q1 q2
  go_enter Try.func10, Try.ntmps10
  go_wp2_with fail
  (refine calls_name fun wa hwa => ?_; have wa_s0 : w.heap.size < wa.heap.size := (by rw [hwa]; first | omega | (simp; done) | (simp; omega)); have wa_c0 : wa.cell? ⟨w.heap.size, 0, none⟩ = some (.int .i64 c.kind) := (by rw [hwa]; go_simp); have wa_c1 : wa.cell? ⟨w.heap.size, 1, none⟩ = some (.int .i64 c.zone) := (by rw [hwa]; go_simp); have wa_c2 : wa.cell? ⟨w.heap.size, 2, none⟩ = some (.int .i64 c.epoch) := (by rw [hwa]; go_simp); have wa_c3 : wa.cell? ⟨w.heap.size, 3, none⟩ = some (.int .i64 c.tt) := (by rw [hwa]; go_simp); have wa_c4 : wa.cell? ⟨w.heap.size, 4, none⟩ = some (.string c.key) := (by rw [hwa]; go_simp); have wa_b : Below w.heap.size w wa := (by rw [hwa]; exact (by repeat (first | with_reducible exact Below.refl _ _ | with_reducible assumption | with_reducible refine Below.drew ?_ | with_reducible refine below_drawn ?_ | with_reducible refine Below.alloc ?_ (by first | omega | (simp; done) | (simp; omega) | (simp at *; omega)) _ | with_reducible refine Below.setCell ?_ (by first | omega | (simp; done) | (simp; omega) | (simp at *; omega)) _ | with_reducible refine Below.trans ?_ (Below.mono (by assumption) (by first | omega | (simp; done) | (simp; omega) | (simp at *; omega)))))); clear hwa)
  refine (findZn_nil _ k).mono ?_
  (rintro e w1 ⟨rfl, w1_h⟩; obtain ⟨w1_hc, w1_hf⟩ := bcell w1_h; have w1_z := w1_h.size; have w1_b := wa_b.trans (w1_h.mono (by have := wa_b.size; omega)); have w1_le := w1_b.size; have w1_s0 : w.heap.size < w1.heap.size := (by omega); clear w1_h)
  simp only [zz0]
  go_wp2_with fail
  (refine calls_name fun wb hwb => ?_; have wb_s0 : w.heap.size < wb.heap.size := (by rw [hwb]; first | omega | (simp; done) | (simp; omega)); have wb_s1 : w1.heap.size < wb.heap.size := (by rw [hwb]; first | omega | (simp; done) | (simp; omega)); have wb_c0 : wb.cell? ⟨w.heap.size, 0, none⟩ = some (.int .i64 c.kind) := (by rw [hwb]; go_simp); have wb_c1 : wb.cell? ⟨w.heap.size, 1, none⟩ = some (.int .i64 c.zone) := (by rw [hwb]; go_simp); have wb_c2 : wb.cell? ⟨w.heap.size, 2, none⟩ = some (.int .i64 c.epoch) := (by rw [hwb]; go_simp); have wb_c3 : wb.cell? ⟨w.heap.size, 3, none⟩ = some (.int .i64 c.tt) := (by rw [hwb]; go_simp); have wb_c4 : wb.cell? ⟨w.heap.size, 4, none⟩ = some (.string c.key) := (by rw [hwb]; go_simp); have wb_c5 : wb.cell? ⟨w1.heap.size, 0, none⟩ = some (.int .i64 0) := (by rw [hwb]; go_simp); have wb_c6 : wb.cell? ⟨w1.heap.size, 1, none⟩ = some (.string ⟨#[]⟩) := (by rw [hwb]; go_simp); have wb_c7 : wb.cell? ⟨w1.heap.size, 2, none⟩ = some (.string ⟨#[]⟩) := (by rw [hwb]; go_simp); have wb_c8 : wb.cell? ⟨w1.heap.size, 3, none⟩ = some (.int .i64 0) := (by rw [hwb]; go_simp); have wb_c9 : wb.cell? ⟨w1.heap.size, 4, none⟩ = some (.int .i64 0) := (by rw [hwb]; go_simp); have wb_c10 : wb.cell? ⟨w1.heap.size, 5, none⟩ = some (.int .i64 0) := (by rw [hwb]; go_simp); have wb_c11 : wb.cell? ⟨w1.heap.size, 6, none⟩ = some (.int .i64 0) := (by rw [hwb]; go_simp); have wb_c12 : wb.cell? ⟨w1.heap.size, 7, none⟩ = some (.string ⟨#[]⟩) := (by rw [hwb]; go_simp); have wb_c13 : wb.cell? ⟨w1.heap.size, 8, none⟩ = some (.int .i64 0) := (by rw [hwb]; go_simp); have wb_b : Below w.heap.size w wb := (by rw [hwb]; exact (by repeat (first | with_reducible exact Below.refl _ _ | with_reducible assumption | with_reducible refine Below.drew ?_ | with_reducible refine below_drawn ?_ | with_reducible refine Below.alloc ?_ (by first | omega | (simp; done) | (simp; omega) | (simp at *; omega)) _ | with_reducible refine Below.setCell ?_ (by first | omega | (simp; done) | (simp; omega) | (simp at *; omega)) _ | with_reducible refine Below.trans ?_ (Below.mono (by assumption) (by first | omega | (simp; done) | (simp; omega) | (simp at *; omega)))))); clear hwb)
  obtain ⟨N, hN⟩ : ∃ N, N = w1.heap.size := ⟨_, rfl⟩
  rw [← hN] at wb_s1 wb_c5 wb_c6 wb_c7 wb_c8 wb_c9 wb_c10 wb_c11 wb_c12 wb_c13 ⊢
  clear hN w1_b w1_hc w1_hf w1_s0 w1_z w1_le wa_c0 wa_c1 wa_c2 wa_c3 wa_c4 wa_s0 wa_b
  have wb_le := wb_b.size
  refine (would_nil c _).mono ?_
  (rintro e w2 ⟨rfl, w2_h⟩; obtain ⟨w2_hc, w2_hf⟩ := bcell w2_h; have w2_z := w2_h.size; have w2_b := wb_b.trans (w2_h.mono (by have := wb_b.size; omega)); have w2_le := w2_b.size; have w2_s0 : w.heap.size < w2.heap.size := (by omega); have w2_s1 : N < w2.heap.size := (by omega); clear w2_h)
  go_wp2_with fail
  refine (apply_nil c _).mono ?_
  rintro e w3 ⟨rfl, hb3⟩
  have w3_b := w2_b.trans (hb3.mono w2_le)
  have w3_z := hb3.size
  obtain ⟨hc3, hf3⟩ := bcell hb3
  have w3_s0 : w.heap.size < w3.heap.size := by omega
  have w3_s1 : N < w3.heap.size := by omega
  clear hb3
  go_wp2_with fail
  refine (map_nil _).mono ?_
  rintro e w4 ⟨rfl, hb4⟩
  have w4_b := w3_b.trans (hb4.mono w3_b.size)
  have w4_z := hb4.size
  obtain ⟨hc4, hf4⟩ := bcell hb4
  have w4_s1 : N < w4.heap.size := by omega
  clear hb4
  go_wp2_with fail
  refine (maps_nil _).mono ?_
  rintro e w5 ⟨rfl, hb5⟩
  have w5_b := w4_b.trans (hb5.mono w4_b.size)
  have w5_z := hb5.size
  obtain ⟨hc5, hf5⟩ := bcell hb5
  have w5_s1 : N < w5.heap.size := by omega
  clear hb5
  go_wp2_with fail
  refine (known_any _).mono ?_
  rintro e w6 ⟨rfl, hb6⟩
  have w6_b := w5_b.trans (hb6.mono w5_b.size)
  clear hb6
  go_wp2_with fail
  go_ret
  exact ⟨rfl, w6_b⟩
namespace DirOfNothingLift
open Go.ChangeShapes Go.WideShapes Go.ChangeAt Go.RowKit Go.Joins Go.Deep
open Go.ChangeMaps (open_string shut_string)

theorem own : ownKnob Try.prog.godebug = none := by kernel_rfl
theorem laidOut : laidOutB Try.prog = true := by kernel_rfl

set_option maxHeartbeats 1000000 in
set_option maxRecDepth 100000 in
theorem lifted (os : Os) (started : os.Started) (H : Type) (enc : TypeId × Value → H) :
    ReturnsInHanded {} Try.checked os 10 .any (Rows.dirOfNothingSpec.pre6 enc Try.prog Try.f10 Rows.dirOfNothingRow.domain false) (Rows.dirOfNothingSpec.post enc Try.prog Try.f10 false true false false) := by
  refine returnsInHanded_of_change (C := Try.checked) own started (by kernel_rfl) Try.func10
    (ChangeSpec.witness6 (enc := enc) (C := Try.checked) false ⟨#[], #[.agg #[.int .i64 0, .int .i64 0, .int .i64 0, .int .i64 0, .string ⟨#[]⟩], .string ⟨#[]⟩], []⟩ 8 (by kernel_rfl) (by kernel_rfl) (by kernel_rfl) (by kernel_rfl)) ?_
  intro W base args ds gs before hval0 hW hcnd _
  have hval : ∀ (j : Nat) t v, Try.f10.params[j]? = some t → args[j]? = some v → Value.okWide Try.prog W .any base t v := hval0
  have hW' := hW
  obtain ⟨p, q, hA0, hV, rfl, hfz, hnd⟩ := hW
  have hA : DataW.TrodAll enc Try.prog W 0 (fun _ => true) true Try.f10.params.toList args.toList ds p := hA0
  rw [Try.params10] at hA hval
  obtain ⟨v0, vs0, d0, ds0, p0, q0, hargs, rfl, rfl, h0, r0⟩ := trodAll_cons hA
  obtain ⟨v1, vs1, d1, ds1, p1, q1, rfl, rfl, rfl, h1, r1⟩ := trodAll_cons r0
  obtain ⟨rfl, rfl, rfl⟩ := trodAll_nil r1
  obtain rfl : args = #[v0, v1] := by cases args; simp_all
  obtain ⟨rfl, rfl⟩ := trodVars_none hV
  have k0 := h0
  have lt0 : ∀ x ∈ p0, x.block < W.heap.size := by obtain ⟨m, hm⟩ := k0; exact DataW.trod_lt m _ _ _ hm
  have k1 := h1
  have lt1 : ∀ x ∈ p1, x.block < W.heap.size := by obtain ⟨m, hm⟩ := k1; exact DataW.trod_lt m _ _ _ hm
  have post : ∀ e W', e = Ending.returned (.bool true) → Below W.heap.size W W' → ∃ v, e = .returned v ∧ Rows.dirOfNothingSpec.post enc Try.prog Try.f10 false true false false W #[v0, v1] v W' := by
    intro e W' he bel
    subst he
    exact ⟨_, rfl, _, _, _, [], _, [], hW', trodAll_mk1 (shut_bool Try.underlying4 _), (trodAll_cons_mk (Below.trod laidOut (by kernel_rfl) (of_decide_eq_true (by kernel_rfl)) k0 bel lt0) (trodAll_cons_mk (Below.trod laidOut (by kernel_rfl) (of_decide_eq_true (by kernel_rfl)) k1 bel lt1) trodAll_mk0)), rfl, bel.frame _, fun h => by cases h⟩
  clear hW' hcnd hfz hnd hA0 hA hval0
  obtain ⟨c, rfl⟩ := open_ch (hval 0 34 v0 rfl rfl) h0; obtain ⟨x, rfl, -, -, -⟩ := open_string Try.underlying9 (hval 1 9 v1 rfl rfl) h1
  exact (nothing_any c x W).mono fun e W' ⟨he, bel⟩ => post e W' he bel

theorem over : Rows.dirOfNothingRow.holds Try.pinned (OpenSpec.ofChange Rows.dirOfNothingSpec) :=
  OpenClaim.holds_of_wide 10 Try.f10 rfl rfl rfl rfl rfl rfl rfl ⟨rfl, rfl, rfl, rfl, rfl⟩ rfl rfl rfl rfl rfl (by kernel_rfl) Try.func10 (by kernel_rfl)
    (of_decide_eq_true (by kernel_rfl)) (by unfold Func.isWrapper; first | (rw [if_pos (by decide +kernel)]; kernel_rfl) | (rw [if_neg (by decide +kernel)]; exact ⟨rfl, rfl⟩))
    (fun os started H enc _ => lifted os started H enc)
end DirOfNothingLift

/-- The statement. -/
theorem dirOfNothing_holds : Rows.DirOfNothingSaid := DirOfNothingLift.over
#print axioms dirOfNothing_holds
end Go.Proofs.Ytobnibdeimiinaa
