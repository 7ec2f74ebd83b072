/- The law PurseOne: so much of any item, or none. -/
import Derived.Test.YtbkagefapmnojaaW2
import Derived.Test.YtbkagefapmnojaaOpenIt
import Derived.Test.YtbkagefapmnojaaRows
import Derived.ProofKit
import Derived.OpenShut
import Derived.ShutString
import Derived.Lib.SmallJoins
import Derived.Deep.Slices
namespace Go.Proofs.Ytbkagefapmnojaa
open Go.RowKit
set_option maxHeartbeats 4000000 in
theorem one_walk (item n : Int) (i : It) (w : World) :
    Calls Try.prog 5 #[.int .i64 item, .int .i64 n, .agg #[.int .i64 i.a, .int .i64 i.b, .int .i64 i.c, .int .i64 i.d]] w fun e w' => e = .returned (.bool true) ∧ Below w.heap.size w w' := by
  have heq := eql_items (selI (oneOk item n) (oneI item n)) (selI (oneOk item n) (oneI item n))
  go_enter Try.func5, Try.ntmps5
  go_wp2_with fail
  (refine calls_name fun wa hwa => ?_; have wa_s0 : w.heap.size < wa.heap.size := (by rw [hwa]; first | omega | (simp; done) | (simp; omega)); have wa_c0 : wa.cell? ⟨w.heap.size, 0, none⟩ = some (.int .i64 i.a) := (by rw [hwa]; go_simp); have wa_c1 : wa.cell? ⟨w.heap.size, 1, none⟩ = some (.int .i64 i.b) := (by rw [hwa]; go_simp); have wa_c2 : wa.cell? ⟨w.heap.size, 2, none⟩ = some (.int .i64 i.c) := (by rw [hwa]; go_simp); have wa_c3 : wa.cell? ⟨w.heap.size, 3, none⟩ = some (.int .i64 i.d) := (by rw [hwa]; go_simp); have wa_b : Below w.heap.size w wa := (by rw [hwa]; exact (by repeat (first | with_reducible exact Below.refl _ _ | with_reducible assumption | with_reducible refine Below.drew ?_ | with_reducible refine below_drawn ?_ | with_reducible refine Below.alloc ?_ (by first | omega | (simp; done) | (simp; omega) | (simp at *; omega)) _ | with_reducible refine Below.setCell ?_ (by first | omega | (simp; done) | (simp; omega) | (simp at *; omega)) _ | with_reducible refine Below.trans ?_ (Below.mono (by assumption) (by first | omega | (simp; done) | (simp; omega) | (simp at *; omega)))))); clear hwa)
  refine (purse_one item n _).mono ?_
  (rintro e w1 ⟨rfl, w1_h⟩; obtain ⟨w1_hc, w1_hf⟩ := bcell w1_h; have w1_z := w1_h.size; have w1_b := wa_b.trans (w1_h.mono (by have := wa_b.size; omega)); have w1_le := w1_b.size; have w1_s0 : w.heap.size < w1.heap.size := (by omega); clear w1_h)
  go_wp2_with fail
  (refine calls_name fun wb hwb => ?_; have wb_s0 : w.heap.size < wb.heap.size := (by rw [hwb]; first | omega | (simp; done) | (simp; omega)); have wb_s1 : w1.heap.size < wb.heap.size := (by rw [hwb]; first | omega | (simp; done) | (simp; omega)); have wb_c0 : wb.cell? ⟨w.heap.size, 0, none⟩ = some (.int .i64 i.a) := (by rw [hwb]; go_simp); have wb_c1 : wb.cell? ⟨w.heap.size, 1, none⟩ = some (.int .i64 i.b) := (by rw [hwb]; go_simp); have wb_c2 : wb.cell? ⟨w.heap.size, 2, none⟩ = some (.int .i64 i.c) := (by rw [hwb]; go_simp); have wb_c3 : wb.cell? ⟨w.heap.size, 3, none⟩ = some (.int .i64 i.d) := (by rw [hwb]; go_simp); have wb_c4 : wb.cell? ⟨w1.heap.size, 0, none⟩ = some (.int .i64 (selI (oneOk item n) (oneI item n)).a) := (by rw [hwb]; go_simp); have wb_c5 : wb.cell? ⟨w1.heap.size, 1, none⟩ = some (.int .i64 (selI (oneOk item n) (oneI item n)).b) := (by rw [hwb]; go_simp); have wb_c6 : wb.cell? ⟨w1.heap.size, 2, none⟩ = some (.int .i64 (selI (oneOk item n) (oneI item n)).c) := (by rw [hwb]; go_simp); have wb_c7 : wb.cell? ⟨w1.heap.size, 3, none⟩ = some (.int .i64 (selI (oneOk item n) (oneI item n)).d) := (by rw [hwb]; go_simp); have wb_b : Below w.heap.size w wb := (by rw [hwb]; exact (by repeat (first | with_reducible exact Below.refl _ _ | with_reducible assumption | with_reducible refine Below.drew ?_ | with_reducible refine below_drawn ?_ | with_reducible refine Below.alloc ?_ (by first | omega | (simp; done) | (simp; omega) | (simp at *; omega)) _ | with_reducible refine Below.setCell ?_ (by first | omega | (simp; done) | (simp; omega) | (simp at *; omega)) _ | with_reducible refine Below.trans ?_ (Below.mono (by assumption) (by first | omega | (simp; done) | (simp; omega) | (simp at *; omega)))))); clear hwb)
  refine (satrapyref8_one item n _).mono ?_
  (rintro e w2 ⟨rfl, w2_h⟩; obtain ⟨w2_hc, w2_hf⟩ := bcell w2_h; have w2_z := w2_h.size; have w2_b := wb_b.trans (w2_h.mono (by have := wb_b.size; omega)); have w2_le := w2_b.size; have w2_s0 : w.heap.size < w2.heap.size := (by omega); have w2_s1 : w1.heap.size < w2.heap.size := (by omega); clear w2_h)
  go_wp2_with fail
  (refine wp_name fun w3 hw3 => ?_; have w3_s0 : w.heap.size < w3.heap.size := (by rw [hw3]; first | omega | (simp; done) | (simp; omega)); have w3_s1 : w1.heap.size < w3.heap.size := (by rw [hw3]; first | omega | (simp; done) | (simp; omega)); have w3_s2 : w2.heap.size < w3.heap.size := (by rw [hw3]; first | omega | (simp; done) | (simp; omega)); have w3_c0 : w3.cell? ⟨w.heap.size, 0, none⟩ = some (.int .i64 i.a) := (by rw [hw3]; go_simp); have w3_c1 : w3.cell? ⟨w.heap.size, 1, none⟩ = some (.int .i64 i.b) := (by rw [hw3]; go_simp); have w3_c2 : w3.cell? ⟨w.heap.size, 2, none⟩ = some (.int .i64 i.c) := (by rw [hw3]; go_simp); have w3_c3 : w3.cell? ⟨w.heap.size, 3, none⟩ = some (.int .i64 i.d) := (by rw [hw3]; go_simp); have w3_c4 : w3.cell? ⟨w1.heap.size, 0, none⟩ = some (.int .i64 (selI (oneOk item n) (oneI item n)).a) := (by rw [hw3]; go_simp); have w3_c5 : w3.cell? ⟨w1.heap.size, 1, none⟩ = some (.int .i64 (selI (oneOk item n) (oneI item n)).b) := (by rw [hw3]; go_simp); have w3_c6 : w3.cell? ⟨w1.heap.size, 2, none⟩ = some (.int .i64 (selI (oneOk item n) (oneI item n)).c) := (by rw [hw3]; go_simp); have w3_c7 : w3.cell? ⟨w1.heap.size, 3, none⟩ = some (.int .i64 (selI (oneOk item n) (oneI item n)).d) := (by rw [hw3]; go_simp); have w3_c8 : w3.cell? ⟨w2.heap.size, 0, none⟩ = some (.int .i64 (selI (oneOk item n) (oneI item n)).a) := (by rw [hw3]; go_simp); have w3_c9 : w3.cell? ⟨w2.heap.size, 1, none⟩ = some (.int .i64 (selI (oneOk item n) (oneI item n)).b) := (by rw [hw3]; go_simp); have w3_c10 : w3.cell? ⟨w2.heap.size, 2, none⟩ = some (.int .i64 (selI (oneOk item n) (oneI item n)).c) := (by rw [hw3]; go_simp); have w3_c11 : w3.cell? ⟨w2.heap.size, 3, none⟩ = some (.int .i64 (selI (oneOk item n) (oneI item n)).d) := (by rw [hw3]; go_simp); have w3_b : Below w.heap.size w w3 := (by rw [hw3]; exact (by repeat (first | with_reducible exact Below.refl _ _ | with_reducible assumption | with_reducible refine Below.drew ?_ | with_reducible refine below_drawn ?_ | with_reducible refine Below.alloc ?_ (by first | omega | (simp; done) | (simp; omega) | (simp at *; omega)) _ | with_reducible refine Below.setCell ?_ (by first | omega | (simp; done) | (simp; omega) | (simp at *; omega)) _ | with_reducible refine Below.trans ?_ (Below.mono (by assumption) (by first | omega | (simp; done) | (simp; omega) | (simp at *; omega)))))); clear hw3)
  (refine wp_region_gr (by kernel_rfl) (by kernel_rfl) ?_; (repeat (go_big_quiet_step (first | (go_at_call 18; exact calls_gr (purse_is _ _)) | (go_at_call 15; exact calls_gr (satrapyref8_is _ _)) | (go_at_call 14; exact calls_gr (known_any _))))); refine wpQuiet_nil ?_; intro _ hw'; obtain ⟨g, hw''⟩ := hw'; subst hw'')
  go_wp2_with fail
  go_ret; exact ⟨rfl, w3_b.trans ((gr_below w3 g).mono (by omega))⟩

namespace PurseOneLift
open Go.ChangeShapes Go.WideShapes Go.ChangeAt Go.RowKit Go.Joins Go.Deep
open Go.ChangeMaps (open_string shut_string)

theorem own : ownKnob Try.prog.godebug = none := by kernel_rfl
theorem laidOut : laidOutB Try.prog = true := by kernel_rfl

set_option maxHeartbeats 1000000 in
set_option maxRecDepth 100000 in
theorem lifted (os : Os) (started : os.Started) (H : Type) (enc : TypeId × Value → H) :
    ReturnsInHanded {} Try.checked os 5 .any (Rows.purseOneSpec.pre6 enc Try.prog Try.f5 Rows.purseOneRow.domain false) (Rows.purseOneSpec.post enc Try.prog Try.f5 false true false false) := by
  refine returnsInHanded_of_change (C := Try.checked) own started (by kernel_rfl) Try.func5
    (ChangeSpec.witness6 (enc := enc) (C := Try.checked) false ⟨#[], #[.int .i64 0, .int .i64 0, .agg #[.int .i64 0, .int .i64 0, .int .i64 0, .int .i64 0]], []⟩ 8 (by kernel_rfl) (by kernel_rfl) (by kernel_rfl) (by kernel_rfl)) ?_
  intro W base args ds gs before hval0 hW hcnd _
  have hval : ∀ (j : Nat) t v, Try.f5.params[j]? = some t → args[j]? = some v → Value.okWide Try.prog W .any base t v := hval0
  have hW' := hW
  obtain ⟨p, q, hA0, hV, rfl, hfz, hnd⟩ := hW
  have hA : DataW.TrodAll enc Try.prog W 0 (fun _ => true) true Try.f5.params.toList args.toList ds p := hA0
  rw [Try.params5] at hA hval
  obtain ⟨v0, vs0, d0, ds0, p0, q0, hargs, rfl, rfl, h0, r0⟩ := trodAll_cons hA
  obtain ⟨v1, vs1, d1, ds1, p1, q1, rfl, rfl, rfl, h1, r1⟩ := trodAll_cons r0
  obtain ⟨v2, vs2, d2, ds2, p2, q2, rfl, rfl, rfl, h2, r2⟩ := trodAll_cons r1
  obtain ⟨rfl, rfl, rfl⟩ := trodAll_nil r2
  obtain rfl : args = #[v0, v1, v2] := by cases args; simp_all
  obtain ⟨rfl, rfl⟩ := trodVars_none hV
  have k0 := h0
  have lt0 : ∀ x ∈ p0, x.block < W.heap.size := by obtain ⟨m, hm⟩ := k0; exact DataW.trod_lt m _ _ _ hm
  have k1 := h1
  have lt1 : ∀ x ∈ p1, x.block < W.heap.size := by obtain ⟨m, hm⟩ := k1; exact DataW.trod_lt m _ _ _ hm
  have k2 := h2
  have lt2 : ∀ x ∈ p2, x.block < W.heap.size := by obtain ⟨m, hm⟩ := k2; exact DataW.trod_lt m _ _ _ hm
  have post : ∀ e W', e = Ending.returned (.bool true) → Below W.heap.size W W' → ∃ v, e = .returned v ∧ Rows.purseOneSpec.post enc Try.prog Try.f5 false true false false W #[v0, v1, v2] v W' := by
    intro e W' he bel
    subst he
    exact ⟨_, rfl, _, _, _, [], _, [], hW', trodAll_mk1 (shut_bool Try.underlying4 _), (trodAll_cons_mk (Below.trod laidOut (by kernel_rfl) (of_decide_eq_true (by kernel_rfl)) k0 bel lt0) (trodAll_cons_mk (Below.trod laidOut (by kernel_rfl) (of_decide_eq_true (by kernel_rfl)) k1 bel lt1) (trodAll_cons_mk (Below.trod laidOut (by kernel_rfl) (of_decide_eq_true (by kernel_rfl)) k2 bel lt2) trodAll_mk0))), rfl, bel.frame _, fun h => by cases h⟩
  clear hW' hcnd hfz hnd hA0 hA hval0
  obtain ⟨item, rfl, -, -, -⟩ := open_int Try.underlying3 (hval 0 3 v0 rfl rfl) h0
  obtain ⟨n, rfl, -, -, -⟩ := open_int Try.underlying3 (hval 1 3 v1 rfl rfl) h1
  obtain ⟨i, rfl⟩ := open_items (hval 2 23 v2 rfl rfl) h2
  exact (one_walk item n i W).mono fun e W' ⟨he, bel⟩ => post e W' he bel

theorem over : Rows.purseOneRow.holds Try.pinned (OpenSpec.ofChange Rows.purseOneSpec) :=
  OpenClaim.holds_of_wide 5 Try.f5 rfl rfl rfl rfl rfl rfl rfl ⟨rfl, rfl, rfl, rfl, rfl⟩ rfl rfl rfl rfl rfl (by kernel_rfl) Try.func5 (by kernel_rfl)
    (of_decide_eq_true (by kernel_rfl)) (by unfold Func.isWrapper; first | (rw [if_pos (by decide +kernel)]; kernel_rfl) | (rw [if_neg (by decide +kernel)]; exact ⟨rfl, rfl⟩))
    (fun os started H enc _ => lifted os started H enc)
end PurseOneLift

/-- The statement. -/
theorem purseOne_holds : Rows.PurseOneSaid := PurseOneLift.over
#print axioms purseOne_holds
end Go.Proofs.Ytbkagefapmnojaa
