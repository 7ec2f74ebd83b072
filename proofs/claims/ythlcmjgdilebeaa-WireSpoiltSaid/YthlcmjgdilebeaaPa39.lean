/- Texts put together: WQ2, RMay. -/
import Derived.Test.YthlcmjgdilebeaaPa04
import Derived.Test.YthlcmjgdilebeaaPa21
import Derived.Test.YthlcmjgdilebeaaPa22
import Derived.Test.YthlcmjgdilebeaaPa37
import Derived.Deep.RegionLaw
namespace Go.Proofs.Ythlcmjgdilebeaa
set_option maxRecDepth 20000
open Go.RowKit

set_option maxHeartbeats 4000000 in
theorem may_q3 {c : Code} (hb : (Try.f7).body = some c) {d : Wd} {ms ds : Value} {V : Array Value} (hV : V = wdV d ms ds) (ao dl : Option Addr) (zc dc : Nat) (hms : ms = .slice ao d.mp.zs.length zc) (hds : ds = .slice dl d.data.length dc) (w wa : World) (hz : O.ZsAt w ao d.mp.zs) (_hbd : BAt w dl d.data) (hl : d.mp.zs.length ≤ 1000) (B P : Nat) (hk : d.kind = 3)
    (H : Hid (St w wa [thObj P (.cells #[.int .i64 d.kind, .int .i64 0, .int .i64 0, .int .i64 0, .int .i64 0, .int .i64 0, .int .i64 0, .int .i64 0, .string ⟨#[]⟩, .string ⟨#[]⟩, .int .i64 0, .int .i64 0, .int .i64 0, .string ⟨#[]⟩, .string ⟨#[]⟩, .string ⟨#[]⟩, .string ⟨#[]⟩, .int .i64 0, .int .i64 0, .int .i64 0, .bool false, .int .i64 0, .int .i64 0, .int .i64 0, .int .i64 0, .int .i64 0, .int .i64 0, .int .i64 0, .int .i64 0, .int .i64 0, .slice none 0 0, .int .i64 0, .int .i64 0, .int .i64 0, .int .i64 0, .string ⟨#[]⟩, .slice none 0 0] 43 (0, 0)), thObj B (.cells V 43 (0, 0))])) (r : Bool) (hr : r = docW d)
    {K2 : Act → World → Prop} (hT : TailOkD K2 w V B P r d) {j5 j6 j7 : Value} : (fstC (sndC (sndC (sndC c)))).wp Try.prog (Exit.then K2 (mayQD w r)) { tmps := #[.agg V, .pointer (some ⟨B, 0, none⟩), .bool false, .pointer (some ⟨P, 0, none⟩), .bool true, j5, j6, j7, undef, undef, undef, undef, undef, undef, undef, undef, undef, undef, undef, undef, undef, undef, undef, undef, undef, undef, undef, undef, undef, undef, undef, undef, undef, undef, undef, undef, undef, undef, undef, undef, undef, undef, undef, undef, undef, undef, undef, undef, undef, undef, undef, undef, undef, undef, undef, undef, undef, undef, undef, undef, undef, undef, undef, undef, undef, undef, undef, undef, undef, undef, undef, undef, undef, undef, undef, undef, undef, undef, undef, undef, undef, undef, undef, undef, undef, undef, undef, undef, undef, undef, undef, undef, undef, undef, undef, undef, undef, undef, undef, undef, undef, undef, undef, undef, undef, undef, undef, undef, undef, undef, undef, undef, undef, undef, undef, undef, undef, undef, undef, undef, undef, undef, undef, undef, undef, undef, undef, undef, undef, undef, undef, undef, undef, undef, undef, undef, undef, undef, undef, undef, undef, undef, undef, undef, undef, undef, undef, undef, undef, undef, undef, undef, undef, undef, undef, undef, undef, undef, undef, undef, undef, undef, undef, undef, undef, undef, undef, undef, undef, undef, undef, undef, undef, undef, undef, undef, undef, undef, undef, undef, undef, undef, undef, undef, undef, undef, undef, undef, undef, undef, undef, undef, undef, undef, undef, undef, undef, undef, undef, undef, undef, undef, undef, undef, undef, undef, undef, undef, undef, undef, undef, undef], defers := [] } wa := by
  have HV := Lib.hid hV
  have Hz := Lib.hid hz
  clear hV hz
  rw [docW_is] at hr
  have e2 : namedW d = pl0 := by simp [namedW, hk]
  have e3 : mapW d = d.mp := by simp [mapW, hasM, hk]
  have e4 : dataW d = [] := by simp [dataW, hasD, hk]
  rw [e2, e3, e4] at hr
  clear e2 e3 e4
  have e1 : okD d = (mayM d.mp) := by simp [okD, hk]
  rw [e1] at hr
  clear e1
  have Hr := Lib.hid hr
  clear hr
  subst hms hds
  cases hb
  simp only [sndC, fstC]
  have S := H
  clear H
  have s0 := (S.out.cellsN 1 rfl).1
  obtain ⟨c0, c1, c2, c3, c4, c5, c6, c7, c8, c9, c10, c11, c12, c13, c14, c15, c16, c17, c18, c19, c20, c21, c22, c23, c24, c25, c26, c27, c28, c29, c30, c31, c32, c33, c34, c35, c36⟩ := wboxD (show wa.heap[B]? = some (.cells (wdV d (.slice ao d.mp.zs.length zc) (.slice dl d.data.length dc)) 43 (0, 0)) from (by rw [← HV.out]; exact (S.out.pull (A := [_])).head))
  rw [hk] at c0
  clear c1 c2 c3 c4 c5 c6 c7 c8 c9 c10 c11 c12 c13 c14 c15 c16 c17 c18 c19 c20 c21 c22 c23 c24 c25 c26 c27 c28 c29 c30 c31 c32 c33 c34 c35 c36
  refine wp_hold fun C HC => ?_
  go_wp2_with fail
  (have hC := HC.out); clear HC; subst hC
  clear c0 s0
  refine wp_block ?_
  iterate 2 ((refine wp_hold fun C HC => ?_); (go_wp2_with fail); (have hC := HC.out); clear HC; subst hC; (refine wp_cond_false rfl ?_))
  ((refine wp_hold fun C HC => ?_); (go_wp2_with fail); (have hC := HC.out); clear HC; subst hC; (refine wp_cond_true rfl ?_))
  refine wp_hold fun C2 HC2 => ?_
  obtain ⟨c0, c1, c2, c3, c4, c5, c6, c7, c8, c9, c10, c11, c12, c13, c14, c15, c16, c17, c18, c19, c20, c21, c22, c23, c24, c25, c26, c27, c28, c29, c30, c31, c32, c33, c34, c35, c36⟩ := wboxD (show wa.heap[B]? = some (.cells (wdV d (.slice ao d.mp.zs.length zc) (.slice dl d.data.length dc)) 43 (0, 0)) from (by rw [← HV.out]; exact (S.out.pull (A := [_])).head))
  have sB := (S.out.cellsN 1 rfl).1
  clear c0 c1 c2 c3 c4 c5 c6 c7 c8 c9 c10 c11 c12 c13 c14 c15 c16 c17 c18 c19 c20 c21 c22 c23 c24 c25 c26 c27 c31 c32 c33 c34 c35 c36
  obtain ⟨p1, p2, p3⟩ := S.out.cellsN 0 rfl
  go_wp2_with fail
  (have hC := HC2.out); clear HC2; subst hC
  clear p1 p2 p3 sB c28 c29 c30
  ((refine wp_name fun w5 hw5 => ?_); (have S := Lib.hid ((((S.out.setObj 28 (.int .i64 d.mp.ver)).setObj 29 (.int .i64 d.mp.next)).setObj 30 (.slice ao d.mp.zs.length zc)))); (rw [← hw5] at S); (simp only [List.setIfInBounds_toArray, List.set_cons_zero, List.set_cons_succ] at S); clear hw5)
  obtain ⟨c0, c1, c2, c3, c4, c5, c6, c7, c8, c9, c10, c11, c12, c13, c14, c15, c16, c17, c18, c19, c20, c21, c22, c23, c24, c25, c26, c27, c28, c29, c30, c31, c32, c33, c34, c35, c36⟩ := wboxD (show w5.heap[B]? = some (.cells (wdV d (.slice ao d.mp.zs.length zc) (.slice dl d.data.length dc)) 43 (0, 0)) from (by rw [← HV.out]; exact (S.out.pull (A := [_])).head))
  have sB := (S.out.cellsN 1 rfl).1
  clear c0 c1 c2 c3 c4 c5 c6 c7 c8 c9 c10 c11 c12 c13 c14 c15 c16 c17 c18 c19 c20 c21 c22 c23 c24 c25 c26 c27 c31 c32 c33 c34 c35 c36
  go_wp2_with fail
  refine (O.rmay_all ao zc d.mp w5 hl (Hz.out.grow S.out.b)).mono ?_
  rintro e w6 ⟨rfl, hb6⟩
  have S := Lib.hid (S.out.grow hb6)
  clear hb6 sB c28 c29 c30
  go_wp2_with fail
  (exact hT _ (xW d (pl0) (d.mp) ([])) ao none zc 0 (mayM d.mp) _ _ _ _ _ _ _ _ _ _ _ _ _ _ _ _ _ _ _ _ _ _ _ _ _ _ _ _ _ _ _ _ _ _ _ _ _ _ _ _ _ _ _ _ _ _ _ _ _ _ _ _ _ _ _ _ _ _ _ _ _ _ _ _ _ _ _ _ _ _ _ _ _ _ _ _ _ _ _ _ _ _ _ _ _ _ _ _ _ _ _ _ _ _ _ _ _ _ _ _ _ _ _ _ _ _ _ _ _ _ _ _ _ _ _ _ _ _ _ _ _ _ _ _ _ _ _ _ _ _ _ _ _ _ _ _ _ _ _ _ _ _ _ _ _ _ _ _ _ _ _ _ _ _ _ _ _ _ _ _ _ _ _ _ _ _ _ _ _ _ _ _ _ _ _ _ _ _ _ _ _ _ _ _ _ _ _ _ _ _ _ _ _ _ _ _ _ S.out Hz.out (ba_nil _) (Nat.le_trans hl (by decide)) (Hr.out))
set_option maxHeartbeats 4000000 in
theorem may_q4 {c : Code} (hb : (Try.f7).body = some c) {d : Wd} {ms ds : Value} {V : Array Value} (hV : V = wdV d ms ds) (ao dl : Option Addr) (zc dc : Nat) (hms : ms = .slice ao d.mp.zs.length zc) (hds : ds = .slice dl d.data.length dc) (w wa : World) (_hz : O.ZsAt w ao d.mp.zs) (_hbd : BAt w dl d.data) (_hl : d.mp.zs.length ≤ 1000) (B P : Nat) (hk : d.kind = 4)
    (H : Hid (St w wa [thObj P (.cells #[.int .i64 d.kind, .int .i64 0, .int .i64 0, .int .i64 0, .int .i64 0, .int .i64 0, .int .i64 0, .int .i64 0, .string ⟨#[]⟩, .string ⟨#[]⟩, .int .i64 0, .int .i64 0, .int .i64 0, .string ⟨#[]⟩, .string ⟨#[]⟩, .string ⟨#[]⟩, .string ⟨#[]⟩, .int .i64 0, .int .i64 0, .int .i64 0, .bool false, .int .i64 0, .int .i64 0, .int .i64 0, .int .i64 0, .int .i64 0, .int .i64 0, .int .i64 0, .int .i64 0, .int .i64 0, .slice none 0 0, .int .i64 0, .int .i64 0, .int .i64 0, .int .i64 0, .string ⟨#[]⟩, .slice none 0 0] 43 (0, 0)), thObj B (.cells V 43 (0, 0))])) (r : Bool) (hr : r = docW d)
    {K2 : Act → World → Prop} (hT : TailOkD K2 w V B P r d) {j5 j6 j7 : Value} : (fstC (sndC (sndC (sndC c)))).wp Try.prog (Exit.then K2 (mayQD w r)) { tmps := #[.agg V, .pointer (some ⟨B, 0, none⟩), .bool false, .pointer (some ⟨P, 0, none⟩), .bool true, j5, j6, j7, undef, undef, undef, undef, undef, undef, undef, undef, undef, undef, undef, undef, undef, undef, undef, undef, undef, undef, undef, undef, undef, undef, undef, undef, undef, undef, undef, undef, undef, undef, undef, undef, undef, undef, undef, undef, undef, undef, undef, undef, undef, undef, undef, undef, undef, undef, undef, undef, undef, undef, undef, undef, undef, undef, undef, undef, undef, undef, undef, undef, undef, undef, undef, undef, undef, undef, undef, undef, undef, undef, undef, undef, undef, undef, undef, undef, undef, undef, undef, undef, undef, undef, undef, undef, undef, undef, undef, undef, undef, undef, undef, undef, undef, undef, undef, undef, undef, undef, undef, undef, undef, undef, undef, undef, undef, undef, undef, undef, undef, undef, undef, undef, undef, undef, undef, undef, undef, undef, undef, undef, undef, undef, undef, undef, undef, undef, undef, undef, undef, undef, undef, undef, undef, undef, undef, undef, undef, undef, undef, undef, undef, undef, undef, undef, undef, undef, undef, undef, undef, undef, undef, undef, undef, undef, undef, undef, undef, undef, undef, undef, undef, undef, undef, undef, undef, undef, undef, undef, undef, undef, undef, undef, undef, undef, undef, undef, undef, undef, undef, undef, undef, undef, undef, undef, undef, undef, undef, undef, undef, undef, undef, undef, undef, undef, undef, undef, undef, undef, undef, undef, undef, undef, undef, undef], defers := [] } wa := by
  have HV := Lib.hid hV
  clear hV
  rw [docW_is] at hr
  have e2 : namedW d = { pl0 with ch := d.ch } := by simp [namedW, hk]
  have e3 : mapW d = mp0 := by simp [mapW, hasM, hk]
  have e4 : dataW d = [] := by simp [dataW, hasD, hk]
  rw [e2, e3, e4] at hr
  clear e2 e3 e4
  have e1 : okD d = (mayC d.ch) := by simp [okD, hk]
  rw [e1] at hr
  clear e1
  have Hr := Lib.hid hr
  clear hr
  subst hms hds
  cases hb
  simp only [sndC, fstC]
  have S := H
  clear H
  have s0 := (S.out.cellsN 1 rfl).1
  obtain ⟨c0, c1, c2, c3, c4, c5, c6, c7, c8, c9, c10, c11, c12, c13, c14, c15, c16, c17, c18, c19, c20, c21, c22, c23, c24, c25, c26, c27, c28, c29, c30, c31, c32, c33, c34, c35, c36⟩ := wboxD (show wa.heap[B]? = some (.cells (wdV d (.slice ao d.mp.zs.length zc) (.slice dl d.data.length dc)) 43 (0, 0)) from (by rw [← HV.out]; exact (S.out.pull (A := [_])).head))
  rw [hk] at c0
  clear c1 c2 c3 c4 c5 c6 c7 c8 c9 c10 c11 c12 c13 c14 c15 c16 c17 c18 c19 c20 c21 c22 c23 c24 c25 c26 c27 c28 c29 c30 c31 c32 c33 c34 c35 c36
  refine wp_hold fun C HC => ?_
  go_wp2_with fail
  (have hC := HC.out); clear HC; subst hC
  clear c0 s0
  refine wp_block ?_
  iterate 3 ((refine wp_hold fun C HC => ?_); (go_wp2_with fail); (have hC := HC.out); clear HC; subst hC; (refine wp_cond_false rfl ?_))
  ((refine wp_hold fun C HC => ?_); (go_wp2_with fail); (have hC := HC.out); clear HC; subst hC; (refine wp_cond_true rfl ?_))
  refine wp_hold fun C2 HC2 => ?_
  obtain ⟨c0, c1, c2, c3, c4, c5, c6, c7, c8, c9, c10, c11, c12, c13, c14, c15, c16, c17, c18, c19, c20, c21, c22, c23, c24, c25, c26, c27, c28, c29, c30, c31, c32, c33, c34, c35, c36⟩ := wboxD (show wa.heap[B]? = some (.cells (wdV d (.slice ao d.mp.zs.length zc) (.slice dl d.data.length dc)) 43 (0, 0)) from (by rw [← HV.out]; exact (S.out.pull (A := [_])).head))
  have sB := (S.out.cellsN 1 rfl).1
  clear c0 c1 c2 c3 c4 c5 c6 c7 c8 c9 c10 c11 c12 c13 c14 c15 c16 c17 c18 c19 c20 c21 c22 c23 c24 c25 c26 c27 c28 c29 c30 c36
  obtain ⟨p1, p2, p3⟩ := S.out.cellsN 0 rfl
  go_wp2_with fail
  (have hC := HC2.out); clear HC2; subst hC
  clear p1 p2 p3 sB c31 c32 c33 c34 c35
  ((refine wp_name fun w5 hw5 => ?_); (have S := Lib.hid ((((((S.out.setObj 31 (.int .i64 d.ch.kind)).setObj 32 (.int .i64 d.ch.zone)).setObj 33 (.int .i64 d.ch.epoch)).setObj 34 (.int .i64 d.ch.tt)).setObj 35 (.string d.ch.key)))); (rw [← hw5] at S); (simp only [List.setIfInBounds_toArray, List.set_cons_zero, List.set_cons_succ] at S); clear hw5)
  obtain ⟨c0, c1, c2, c3, c4, c5, c6, c7, c8, c9, c10, c11, c12, c13, c14, c15, c16, c17, c18, c19, c20, c21, c22, c23, c24, c25, c26, c27, c28, c29, c30, c31, c32, c33, c34, c35, c36⟩ := wboxD (show w5.heap[B]? = some (.cells (wdV d (.slice ao d.mp.zs.length zc) (.slice dl d.data.length dc)) 43 (0, 0)) from (by rw [← HV.out]; exact (S.out.pull (A := [_])).head))
  have sB := (S.out.cellsN 1 rfl).1
  clear c0 c1 c2 c3 c4 c5 c6 c7 c8 c9 c10 c11 c12 c13 c14 c15 c16 c17 c18 c19 c20 c21 c22 c23 c24 c25 c26 c27 c28 c29 c30 c36
  go_wp2_with fail
  refine (rmayC_any d.ch w5 _ rfl).mono ?_
  rintro e w6 ⟨rfl, hb6⟩
  have S := Lib.hid (S.out.grow hb6)
  clear hb6 sB c31 c32 c33 c34 c35
  go_wp2_with fail
  (exact hT _ (xW d ({ pl0 with ch := d.ch }) (mp0) ([])) none none 0 0 (mayC d.ch) _ _ _ _ _ _ _ _ _ _ _ _ _ _ _ _ _ _ _ _ _ _ _ _ _ _ _ _ _ _ _ _ _ _ _ _ _ _ _ _ _ _ _ _ _ _ _ _ _ _ _ _ _ _ _ _ _ _ _ _ _ _ _ _ _ _ _ _ _ _ _ _ _ _ _ _ _ _ _ _ _ _ _ _ _ _ _ _ _ _ _ _ _ _ _ _ _ _ _ _ _ _ _ _ _ _ _ _ _ _ _ _ _ _ _ _ _ _ _ _ _ _ _ _ _ _ _ _ _ _ _ _ _ _ _ _ _ _ _ _ _ _ _ _ _ _ _ _ _ _ _ _ _ _ _ _ _ _ _ _ _ _ _ _ _ _ _ _ _ _ _ _ _ _ _ _ _ _ _ _ _ _ _ _ _ _ _ _ _ _ _ _ _ _ _ _ _ S.out (zs_nil _) (ba_nil _) (Nat.zero_le _) (Hr.out))
end Go.Proofs.Ythlcmjgdilebeaa

namespace Go.Proofs.Ythlcmjgdilebeaa
open Go.RowKit

theorem isKeyO_any (k : ByteArray) (w : World) (r : Bool) (hr : decide (1 ≤ k.size ∧ k.size ≤ 16) = r) :
    Calls Try.prog 48 #[.string k] w fun e w' => e = .returned (.bool r) ∧ Below w.heap.size w w' := by
  by_cases h1 : 1 ≤ k.size
  · by_cases h2 : k.size ≤ 16
    · obtain rfl : r = true := by rw [← hr]; simp [h1, h2]
      have d4 : decide ((k.size : Int) ≤ 16) = true := by rw [decide_eq_true_eq]; omega
      clear hr
      go_enter Try.func48, Try.ntmps48
      go_wp2_with fail
      go_ret
      exact ⟨rfl, bg⟩
    · obtain rfl : r = false := by rw [← hr]; simp [h2]
      have d4 : decide ((k.size : Int) ≤ 16) = false := by rw [decide_eq_false_iff_not]; omega
      clear hr
      go_enter Try.func48, Try.ntmps48
      go_wp2_with fail
      go_ret
      exact ⟨rfl, bg⟩
  · obtain rfl : r = false := by rw [← hr]; simp [h1]
    clear hr
    go_enter Try.func48, Try.ntmps48
    go_wp2_with fail
    go_ret
    exact ⟨rfl, bg⟩
theorem rplace_any (k v : ByteArray) (w : World) (r : Bool) (hr : placeB k v = r) :
    Calls Try.prog 49 #[.agg #[.string k, .string v]] w fun e w' => e = .returned (.bool r) ∧ Below w.heap.size w w' := by
  have hpl : placeB k v = (decide (1 ≤ k.size ∧ k.size ≤ 16) && decide (1 ≤ v.size ∧ v.size ≤ 16)) := by
    unfold placeB; rw [← Bool.decide_and]; congr 1; simp only [and_assoc]
  rw [hpl] at hr
  cases h1 : decide (1 ≤ k.size ∧ k.size ≤ 16) with
  | true =>
    rw [h1, Bool.true_and] at hr
    have H1 := Lib.hid h1
    have H2 := Lib.hid hr
    clear h1 hr hpl
    go_enter Try.func49, Try.ntmps49
    go_wp2_with fail
    (refine calls_name fun wa hwa => ?_; have wa_s0 : w.heap.size < wa.heap.size := szg hwa; have wa_c0 : wa.cell? ⟨w.heap.size, 0, none⟩ = some (.string k) := cg hwa; have wa_c1 : wa.cell? ⟨w.heap.size, 1, none⟩ = some (.string v) := cg hwa; have wa_b : Below w.heap.size w wa := (by rw [hwa]; exact bg); clear hwa)
    refine (isKeyO_any k _ true H1.out).mono ?_
    (rintro e w1 ⟨rfl, w1_h⟩; obtain ⟨w1_hc, w1_hf⟩ := bcell w1_h; have w1_z := w1_h.size; have w1_b := wa_b.trans (w1_h.mono (by have := wa_b.size; omega)); have w1_le := w1_b.size; have w1_s0 : w.heap.size < w1.heap.size := (by omega); clear w1_h)
    go_wp2_with fail
    (refine calls_name fun wb hwb => ?_; have wb_b : Below w.heap.size w wb := (by rw [hwb]; exact bg); clear hwb)
    refine (isKeyO_any v _ r H2.out).mono ?_
    (rintro e w2 ⟨rfl, w2_h⟩; obtain ⟨w2_hc, w2_hf⟩ := bcell w2_h; have w2_z := w2_h.size; have w2_b := wb_b.trans (w2_h.mono (by have := wb_b.size; omega)); have w2_le := w2_b.size; clear w2_h)
    go_wp2_with fail
    go_ret
    exact ⟨rfl, bg⟩
  | false =>
    rw [h1, Bool.false_and] at hr
    subst hr
    have H1 := Lib.hid h1
    clear h1 hpl
    go_enter Try.func49, Try.ntmps49
    go_wp2_with fail
    (refine calls_name fun wa hwa => ?_; have wa_b : Below w.heap.size w wa := (by rw [hwa]; exact bg); clear hwa)
    refine (isKeyO_any k _ false H1.out).mono ?_
    (rintro e w1 ⟨rfl, w1_h⟩; obtain ⟨w1_hc, w1_hf⟩ := bcell w1_h; have w1_z := w1_h.size; have w1_b := wa_b.trans (w1_h.mono (by have := wa_b.size; omega)); have w1_le := w1_b.size; clear w1_h)
    go_wp2_with fail
    go_ret
    exact ⟨rfl, bg⟩
theorem eqR_comm (a b : Rq) : eqR a b = eqR b a := by
  unfold eqR
  congr 1
  simp only [eq_iff_iff]
  constructor <;> (rintro ⟨h1, h2, h3, h4, h5, h6, h7, h8, h9, h10, h11, h12⟩; exact ⟨h1.symm, h2.symm, h3.symm, h4.symm, h5.symm, h6.symm, h7.symm, h8.symm, h9.symm, h10.symm, h11.symm, h12.symm⟩)
theorem e0_nil : e0.toList = [] := by simp [e0]
set_option maxRecDepth 100000 in
set_option maxHeartbeats 4000000 in
theorem rmay_no (o : Rq) (w : World) (hr : (decide (1 ≤ o.client ∧ o.client ≤ 1048576 ∧ 1 ≤ o.seq ∧ o.seq ≤ 1099511627776) && placeB o.key o.who) = false) :
    Calls Try.prog 17 #[.agg #[.int .i64 o.kind, .int .i64 o.client, .int .i64 o.seq, .string o.key, .string o.who, .string o.tkey, .string o.twho, .int .i64 o.item, .int .i64 o.count, .int .i64 o.price, .bool o.buy, .int .i64 o.id]] w fun e w' => e = .returned (.bool false) ∧ Below w.heap.size w w' := by
  by_cases q0 : o.client < 1
  · have b0 : decide (o.client < 1) = true := by rw [decide_eq_true_eq]; exact q0
    clear hr
    go_enter Try.func17, Try.ntmps17
    go_wp2_with fail
    go_ret
    exact ⟨rfl, bg⟩
  have b0 : decide (o.client < 1) = false := by rw [decide_eq_false_iff_not]; exact q0
  by_cases q1 : 1048576 < o.client
  · have b1 : decide (1048576 < o.client) = true := by rw [decide_eq_true_eq]; exact q1
    clear hr
    go_enter Try.func17, Try.ntmps17
    go_wp2_with fail
    go_ret
    exact ⟨rfl, bg⟩
  have b1 : decide (1048576 < o.client) = false := by rw [decide_eq_false_iff_not]; exact q1
  by_cases q2 : o.seq < 1
  · have b2 : decide (o.seq < 1) = true := by rw [decide_eq_true_eq]; exact q2
    clear hr
    go_enter Try.func17, Try.ntmps17
    go_wp2_with fail
    go_ret
    exact ⟨rfl, bg⟩
  have b2 : decide (o.seq < 1) = false := by rw [decide_eq_false_iff_not]; exact q2
  by_cases q3 : 1099511627776 < o.seq
  · have b3 : decide (1099511627776 < o.seq) = true := by rw [decide_eq_true_eq]; exact q3
    clear hr
    go_enter Try.func17, Try.ntmps17
    go_wp2_with fail
    go_ret
    exact ⟨rfl, bg⟩
  have b3 : decide (1099511627776 < o.seq) = false := by rw [decide_eq_false_iff_not]; exact q3
  have hp : placeB o.key o.who = false := by
    rw [Bool.and_eq_false_iff] at hr
    rcases hr with h | h
    · rw [decide_eq_false_iff_not] at h; omega
    · exact h
  have Hp := Lib.hid hp
  clear hr hp
  go_enter Try.func17, Try.ntmps17
  go_wp2_with fail
  (refine calls_name fun wa hwa => ?_; have wa_b : Below w.heap.size w wa := (by rw [hwa]; exact bg); clear hwa)
  refine (rplace_any o.key o.who _ false Hp.out).mono ?_
  (rintro e w1 ⟨rfl, w1_h⟩; obtain ⟨w1_hc, w1_hf⟩ := bcell w1_h; have w1_z := w1_h.size; have w1_b := wa_b.trans (w1_h.mono (by have := wa_b.size; omega)); have w1_le := w1_b.size; clear w1_h)
  go_wp2_with fail
  go_ret
  exact ⟨rfl, bg⟩
set_option maxRecDepth 100000 in
set_option maxHeartbeats 4000000 in
theorem rmay_out (o : Rq) (w : World) (c1 : 1 ≤ o.client) (c2 : o.client ≤ 1048576) (c3 : 1 ≤ o.seq) (c4 : o.seq ≤ 1099511627776) (hp : placeB o.key o.who = true) (hk : o.kind < 1 ∨ 7 < o.kind) :
    Calls Try.prog 17 #[.agg #[.int .i64 o.kind, .int .i64 o.client, .int .i64 o.seq, .string o.key, .string o.who, .string o.tkey, .string o.twho, .int .i64 o.item, .int .i64 o.count, .int .i64 o.price, .bool o.buy, .int .i64 o.id]] w fun e w' => e = .returned (.bool false) ∧ Below w.heap.size w w' := by
  have Hp := Lib.hid hp
  clear hp
  have k1 : (o.kind == 1) = false := by rw [beq_eq_false_iff_ne]; omega
  have k2 : (o.kind == 2) = false := by rw [beq_eq_false_iff_ne]; omega
  have k3 : (o.kind == 3) = false := by rw [beq_eq_false_iff_ne]; omega
  have k4 : (o.kind == 4) = false := by rw [beq_eq_false_iff_ne]; omega
  have k5 : (o.kind == 5) = false := by rw [beq_eq_false_iff_ne]; omega
  have k6 : (o.kind == 6) = false := by rw [beq_eq_false_iff_ne]; omega
  have k7 : (o.kind == 7) = false := by rw [beq_eq_false_iff_ne]; omega
  have d2 : decide (1048576 < o.client) = false := by rw [decide_eq_false_iff_not]; omega
  have d1 : decide (o.client < 1) = false := by rw [decide_eq_false_iff_not]; omega
  have d3 : decide (o.seq < 1) = false := by rw [decide_eq_false_iff_not]; omega
  have d4 : decide (1099511627776 < o.seq) = false := by rw [decide_eq_false_iff_not]; omega
  clear hk
  go_enter Try.func17, Try.ntmps17
  go_wp2_with fail
  (refine calls_name fun wa hwa => ?_; have wa_s0 : w.heap.size < wa.heap.size := szg hwa; have wa_c0 : wa.cell? ⟨w.heap.size, 0, none⟩ = some (.int .i64 o.kind) := cg hwa; have wa_c1 : wa.cell? ⟨w.heap.size, 1, none⟩ = some (.int .i64 o.client) := cg hwa; have wa_c2 : wa.cell? ⟨w.heap.size, 2, none⟩ = some (.int .i64 o.seq) := cg hwa; have wa_c3 : wa.cell? ⟨w.heap.size, 3, none⟩ = some (.string o.key) := cg hwa; have wa_c4 : wa.cell? ⟨w.heap.size, 4, none⟩ = some (.string o.who) := cg hwa; have wa_c5 : wa.cell? ⟨w.heap.size, 5, none⟩ = some (.string o.tkey) := cg hwa; have wa_c6 : wa.cell? ⟨w.heap.size, 6, none⟩ = some (.string o.twho) := cg hwa; have wa_c7 : wa.cell? ⟨w.heap.size, 7, none⟩ = some (.int .i64 o.item) := cg hwa; have wa_c8 : wa.cell? ⟨w.heap.size, 8, none⟩ = some (.int .i64 o.count) := cg hwa; have wa_c9 : wa.cell? ⟨w.heap.size, 9, none⟩ = some (.int .i64 o.price) := cg hwa; have wa_c10 : wa.cell? ⟨w.heap.size, 10, none⟩ = some (.bool o.buy) := cg hwa; have wa_c11 : wa.cell? ⟨w.heap.size, 11, none⟩ = some (.int .i64 o.id) := cg hwa; have wa_b : Below w.heap.size w wa := (by rw [hwa]; exact bg); clear hwa)
  refine (rplace_any o.key o.who _ true Hp.out).mono ?_
  (rintro e w1 ⟨rfl, w1_h⟩; obtain ⟨w1_hc, w1_hf⟩ := bcell w1_h; have w1_z := w1_h.size; have w1_b := wa_b.trans (w1_h.mono (by have := wa_b.size; omega)); have w1_le := w1_b.size; have w1_s0 : w.heap.size < w1.heap.size := (by omega); clear w1_h)
  go_wp2_with fail
  go_ret
  exact ⟨rfl, bg⟩
end Go.Proofs.Ythlcmjgdilebeaa
