/- WireFields: a field that a Kind does not name makes a word none. It holds of all arguments, without a condition. -/
import Derived.Test.YthlcmjgdilebeaaPa34
import Derived.Test.YthlcmjgdilebeaaPa48
import Derived.Test.YthlcmjgdilebeaaPa50
import Derived.Test.YthlcmjgdilebeaaRows
namespace Go.Proofs.Ythlcmjgdilebeaa
set_option maxRecDepth 20000
open Go.RowKit

set_option maxHeartbeats 8000000 in
theorem fields_walk {d : Wd} {V : Array Value} (ao bo : Option Addr) (zc bc : Nat) (hV : V = wdV d (.slice ao d.mp.zs.length zc) (.slice bo d.data.length bc)) (which : Int) (w : World) (hz : O.ZsAt w ao d.mp.zs) (hzl : d.mp.zs.length ≤ 9223372036854775807) (hsl : F.Sl w bo bc d.data) :
    Calls Try.prog 3 #[.agg V, .int .i64 which] w fun e w' => e = .returned (.bool true) ∧ Below w.heap.size w w' := by
  have HV := Lib.hid hV
  have HZ := Lib.hid hz
  have Hsl := Lib.hid hsl
  have hs : V.size = 37 := by rw [hV]; rfl
  have hone : V.all (·.oneCell') = true := by rw [hV]; simp [wdV, Value.oneCell']
  have Hdl : Hid (d.data.length ≤ 9223372036854775807) := Lib.hid (by have := hsl.le; have := hsl.cm; omega)
  clear hV hz hsl
  go_enter Try.func3, Try.ntmps3
  refine wp_hold fun C HC => ?_
  go_wp2_with fail
  refine wp_name fun wa hwa => ?_
  obtain ⟨B, hB⟩ : ∃ B, B = w.heap.size := ⟨_, rfl⟩
  have S : Hid (St w wa [thObj B (.cells V 40 (0, 0))]) := by rw [hwa]; exact Lib.hid ((St.start w).objN _ B hB)
  rw [← hB]
  clear hwa hB
  (have hC := HC.out); clear HC; subst hC
  refine wp_hold fun C HC => ?_
  refine wp_seq ?_
  refine wp_seq ?_
  refine wp_region_lit ?_
  (refine wpList_load_row rfl 40 _ rfl B rfl _ _ _ _ (S.out.head) Try.underlying40 rfl (by rw [hs]; kernel_rfl) ?_)
  ((refine list_hold 2 fun L HL => ?_); simp only [List.take_succ_cons, List.take_zero, List.cons_append, List.nil_append]; (go_wp2_with fail))
  refine (heavyW_any HV.out ao bo zc bc rfl rfl wa (HZ.out.grow S.out.b) hzl Hdl.out).mono ?_
  rintro e w1 ⟨hb1, he⟩
  have S := Lib.hid (S.out.grow hb1)
  clear hb1
  rcases he with rfl | ⟨rfl, hli, -⟩
  · go_wp2_with fail
    ((have hL := HL.out); clear HL; subst hL; simp only [List.drop_succ_cons, List.drop_zero])
    go_wp2_with fail
    go_ret
    exact ⟨rfl, S.out.b⟩
  have HL1 := Lib.hid hli
  clear hli
  go_wp2_with fail
  ((have hL := HL.out); clear HL; subst hL; simp only [List.drop_succ_cons, List.drop_zero])
  (refine wpList_load_rowG (by rfl) 40 _ rfl B rfl _ _ _ _ (S.out.head) Try.underlying40 rfl (by rw [hs]; kernel_rfl) ?_)
  ((refine list_hold 2 fun L HL => ?_); simp only [List.take_succ_cons, List.take_zero, List.cons_append, List.nil_append]; (go_wp2_with fail))
  refine (like_any HV.out w1).mono ?_
  rintro e w2 ⟨rfl, hb2⟩
  have S := Lib.hid (S.out.grow hb2)
  clear hb2
  go_wp2_with fail
  refine (rmayW_any HV.out ao bo zc bc rfl rfl w2 (HZ.out.grow S.out.b) (Hsl.out.grow S.out.b).at_ (by have := HL1.out.mp.1; omega)).mono ?_
  rintro e w3 ⟨rfl, hb3⟩
  have S := Lib.hid (S.out.grow hb3)
  clear hb3
  rw [docW_eq]
  cases hm : mayW d with
  | false =>
    clear hm
    go_wp2_with fail
    ((have hL := HL.out); clear HL; subst hL; simp only [List.drop_succ_cons, List.drop_zero])
    go_wp2_with fail
    go_ret
    exact ⟨rfl, S.out.b⟩
  | true =>
    have Hm := Lib.hid hm
    clear hm
    go_wp2_with fail
    ((have hL := HL.out); clear HL; subst hL; simp only [List.drop_succ_cons, List.drop_zero])
    go_wp2_with fail
    (have hC := HC.out); clear HC; subst hC
    refine wp_hold fun C HC => ?_
    refine wp_seq ?_
    refine wp_region_lit ?_
    (refine wpList_load_row rfl 40 _ rfl B rfl _ _ _ _ (S.out.head) Try.underlying40 rfl (by rw [hs]; kernel_rfl) ?_)
    ((refine list_hold 1 fun L HL => ?_); simp only [List.take_succ_cons, List.take_zero, List.cons_append, List.nil_append]; (go_wp2_with fail))
    refine list_name fun w4 hw4 => ?_
    obtain ⟨P, hP⟩ : ∃ P, P = w3.heap.size := ⟨_, rfl⟩
    have S4 := Lib.hid (S.out.objN (.cells #[.int .i64 0, .int .i64 0, .int .i64 0, .int .i64 0, .int .i64 0, .int .i64 0, .int .i64 0, .int .i64 0, .string ⟨#[]⟩, .string ⟨#[]⟩, .int .i64 0, .int .i64 0, .int .i64 0, .string ⟨#[]⟩, .string ⟨#[]⟩, .string ⟨#[]⟩, .string ⟨#[]⟩, .int .i64 0, .int .i64 0, .int .i64 0, .bool false, .int .i64 0, .int .i64 0, .int .i64 0, .int .i64 0, .int .i64 0, .int .i64 0, .int .i64 0, .int .i64 0, .int .i64 0, .slice none 0 0, .int .i64 0, .int .i64 0, .int .i64 0, .int .i64 0, .string ⟨#[]⟩, .slice none 0 0] 40) P hP)
    rw [← hw4] at S4
    rw [← hP]
    clear hw4 hP S
    ((have hL := HL.out); clear HL; subst hL; simp only [List.drop_succ_cons, List.drop_zero])
    refine wpList_store_row rfl 40 _ _ rfl P V rfl rfl 40 _ S4.out.head (by rw [hs]; kernel_rfl) (by rw [hs]; rfl) hone ?_
    have S := Lib.hid (S4.out.setRow V hs)
    clear S4
    refine list_name fun w5 hw5 => ?_
    rw [← hw5] at S
    clear hw5
    go_wp2_with fail
    (have hC := HC.out); clear HC; subst hC
    refine wp_hold fun CT HCT => ?_
    refine wp_seq ?_
    refine wp_hold fun C HC => ?_
    go_wp2_with fail
    (have hC := HC.out); clear HC; subst hC
    refine wp_block ?_
    generalize bits BinOp.and IntKind.i64 which 7 = k
    by_cases k0 : k = 0
    · have t0 : (k == 0) = true := by rw [k0]; rfl
      ((refine wp_hold fun C HC => ?_); (go_wp2_with fail); (have hC := HC.out); clear HC; subst hC; (refine wp_cond_true rfl ?_))
      obtain ⟨c0, c1, c2, c3, c4, c5, c6, c7, c8, c9, c10, c11, c12, c13, c14, c15, c16, c17, c18, c19, c20, c21, c22, c23, c24, c25, c26, c27, c28, c29, c30, c31, c32, c33, c34, c35, c36⟩ := wbox (show w5.heap[P]? = some (.cells (wdV d (.slice ao d.mp.zs.length zc) (.slice bo d.data.length bc)) 40 (0, 0)) from (by rw [← HV.out]; exact S.out.head))
      have sP := (S.out.cellsN 0 rfl).1
      obtain ⟨-, -, p3⟩ := S.out.cellsN 0 rfl
      clear c0 c2 c3 c4 c5 c6 c7 c8 c9 c10 c11 c12 c13 c14 c15 c16 c17 c18 c19 c20 c21 c22 c23 c24 c25 c26 c27 c28 c29 c30 c31 c32 c33 c34 c35 c36
      go_wp2_with fail
      clear c1 sP p3
      ((refine wp_name fun w6 hw6 => ?_); (obtain ⟨VX, hVX⟩ : ∃ VX, VX = wdV ({ d with zone := -1 }) (.slice ao d.mp.zs.length zc) (.slice bo d.data.length bc) := ⟨_, rfl⟩); (have S6 : Hid (St w w6 [thObj P (.cells VX 40 (0, 0)), thObj B (.cells V 40 (0, 0))]) := (by have h := S.out.setObj 1 (.int .i64 (-1)); rw [← hw6, show V.setIfInBounds 1 (.int .i64 (-1)) = VX from (by rw [HV.out, hVX]; rfl)] at h; exact Lib.hid h)); clear hw6 S; (have HX := Lib.hid hVX); (have hsX : VX.size = 37 := (by rw [hVX]; rfl)); clear hVX; (have HLX : Hid (Light ({ d with zone := -1 })) := Lib.hid ⟨HL1.out.mp, HL1.out.data, HL1.out.sf, HL1.out.st⟩); (have hC := HCT.out); clear HCT; subst hC; (refine wp_hold fun C HC => ?_); (refine wp_seq ?_); (refine wp_region_lit ?_); (refine wpList_load_row rfl 40 _ rfl P rfl _ _ _ _ (S6.out.head) Try.underlying40 rfl (by rw [hsX]; kernel_rfl) ?_); (go_wp2_with fail); (refine (wenc_any (d := { d with zone := -1 }) HX.out ao bo zc bc rfl rfl w6 (HZ.out.grow S6.out.b) (Hsl.out.grow S6.out.b) HLX.out).mono ?_); (rintro e w7 ⟨hb7, he⟩); (rw [if_neg (by rw [bad_zone d]; simp)] at he); subst he; (have S7 := Lib.hid (S6.out.grow hb7)); clear hb7 S6; (go_wp2_with fail); (have hC := HC.out); clear HC; subst hC; (refine wp_seq ?_); (refine wp_region_lit ?_); (refine wpList_load_row rfl 40 _ rfl B rfl _ _ _ _ ((S7.out.pull (A := [_])).head) Try.underlying40 rfl (by rw [hs]; kernel_rfl) ?_); ((refine list_hold 2 fun L HL => ?_); simp only [List.take_succ_cons, List.take_zero, List.cons_append, List.nil_append]; (go_wp2_with fail)); (refine (wmay_any HV.out ao bo zc bc rfl rfl w7 (HZ.out.grow S7.out.b) HL1.out.mp Hdl.out).mono ?_); (rintro e w8 ⟨rfl, hb8⟩); (rw [Hm.out]); (have S8 := Lib.hid (S7.out.grow hb8)); clear hb8 S7; (go_wp2_with fail); ((have hL := HL.out); clear HL; subst hL; simp only [List.drop_succ_cons, List.drop_zero]); (refine wpList_load_rowG (by rfl) 40 _ rfl P rfl _ _ _ _ (S8.out.head) Try.underlying40 rfl (by rw [hsX]; kernel_rfl) ?_); ((refine list_hold 4 fun L HL => ?_); simp only [List.take_succ_cons, List.take_zero, List.cons_append, List.nil_append]; (go_wp2_with fail)); (refine (wmay_any (d := { d with zone := -1 }) HX.out ao bo zc bc rfl rfl w8 (HZ.out.grow S8.out.b) HLX.out.mp Hdl.out).mono ?_); (rintro e w9 ⟨rfl, hb9⟩); (rw [bad_zone d]); (have S9 := Lib.hid (S8.out.grow hb9)); clear hb9 S8; (go_wp2_with fail); ((have hL := HL.out); clear HL; subst hL; simp only [List.drop_succ_cons, List.drop_zero]); (go_wp2_with fail); (refine (knownW_any w9).mono ?_); (rintro e w10 ⟨rfl, hb10⟩); (have w10_b := (S9.out.grow hb10).b); (go_wp2_with fail); go_ret; exact ⟨rfl, w10_b⟩)
    have t0 : (k == 0) = false := by rw [beq_eq_false_iff_ne]; exact k0
    ((refine wp_hold fun C HC => ?_); (go_wp2_with fail); (have hC := HC.out); clear HC; subst hC; (refine wp_cond_false rfl ?_))
    by_cases k1 : k = 1
    · have t1 : (k == 1) = true := by rw [k1]; rfl
      ((refine wp_hold fun C HC => ?_); (go_wp2_with fail); (have hC := HC.out); clear HC; subst hC; (refine wp_cond_true rfl ?_))
      obtain ⟨c0, c1, c2, c3, c4, c5, c6, c7, c8, c9, c10, c11, c12, c13, c14, c15, c16, c17, c18, c19, c20, c21, c22, c23, c24, c25, c26, c27, c28, c29, c30, c31, c32, c33, c34, c35, c36⟩ := wbox (show w5.heap[P]? = some (.cells (wdV d (.slice ao d.mp.zs.length zc) (.slice bo d.data.length bc)) 40 (0, 0)) from (by rw [← HV.out]; exact S.out.head))
      have sP := (S.out.cellsN 0 rfl).1
      obtain ⟨-, -, p3⟩ := S.out.cellsN 0 rfl
      clear c1 c2 c3 c4 c5 c6 c7 c8 c9 c10 c11 c12 c13 c14 c15 c16 c17 c18 c19 c20 c21 c22 c23 c24 c25 c26 c27 c28 c29 c30 c31 c32 c33 c34 c35 c36
      go_wp2_with fail
      clear c0 sP p3
      ((refine wp_name fun w6 hw6 => ?_); (obtain ⟨VX, hVX⟩ : ∃ VX, VX = wdV ({ d with kind := 11 }) (.slice ao d.mp.zs.length zc) (.slice bo d.data.length bc) := ⟨_, rfl⟩); (have S6 : Hid (St w w6 [thObj P (.cells VX 40 (0, 0)), thObj B (.cells V 40 (0, 0))]) := (by have h := S.out.setObj 0 (.int .i64 11); rw [← hw6, show V.setIfInBounds 0 (.int .i64 11) = VX from (by rw [HV.out, hVX]; rfl)] at h; exact Lib.hid h)); clear hw6 S; (have HX := Lib.hid hVX); (have hsX : VX.size = 37 := (by rw [hVX]; rfl)); clear hVX; (have HLX : Hid (Light ({ d with kind := 11 })) := Lib.hid ⟨HL1.out.mp, HL1.out.data, HL1.out.sf, HL1.out.st⟩); (have hC := HCT.out); clear HCT; subst hC; (refine wp_hold fun C HC => ?_); (refine wp_seq ?_); (refine wp_region_lit ?_); (refine wpList_load_row rfl 40 _ rfl P rfl _ _ _ _ (S6.out.head) Try.underlying40 rfl (by rw [hsX]; kernel_rfl) ?_); (go_wp2_with fail); (refine (wenc_any (d := { d with kind := 11 }) HX.out ao bo zc bc rfl rfl w6 (HZ.out.grow S6.out.b) (Hsl.out.grow S6.out.b) HLX.out).mono ?_); (rintro e w7 ⟨hb7, he⟩); (rw [if_neg (by rw [bad_kind d]; simp)] at he); subst he; (have S7 := Lib.hid (S6.out.grow hb7)); clear hb7 S6; (go_wp2_with fail); (have hC := HC.out); clear HC; subst hC; (refine wp_seq ?_); (refine wp_region_lit ?_); (refine wpList_load_row rfl 40 _ rfl B rfl _ _ _ _ ((S7.out.pull (A := [_])).head) Try.underlying40 rfl (by rw [hs]; kernel_rfl) ?_); ((refine list_hold 2 fun L HL => ?_); simp only [List.take_succ_cons, List.take_zero, List.cons_append, List.nil_append]; (go_wp2_with fail)); (refine (wmay_any HV.out ao bo zc bc rfl rfl w7 (HZ.out.grow S7.out.b) HL1.out.mp Hdl.out).mono ?_); (rintro e w8 ⟨rfl, hb8⟩); (rw [Hm.out]); (have S8 := Lib.hid (S7.out.grow hb8)); clear hb8 S7; (go_wp2_with fail); ((have hL := HL.out); clear HL; subst hL; simp only [List.drop_succ_cons, List.drop_zero]); (refine wpList_load_rowG (by rfl) 40 _ rfl P rfl _ _ _ _ (S8.out.head) Try.underlying40 rfl (by rw [hsX]; kernel_rfl) ?_); ((refine list_hold 4 fun L HL => ?_); simp only [List.take_succ_cons, List.take_zero, List.cons_append, List.nil_append]; (go_wp2_with fail)); (refine (wmay_any (d := { d with kind := 11 }) HX.out ao bo zc bc rfl rfl w8 (HZ.out.grow S8.out.b) HLX.out.mp Hdl.out).mono ?_); (rintro e w9 ⟨rfl, hb9⟩); (rw [bad_kind d]); (have S9 := Lib.hid (S8.out.grow hb9)); clear hb9 S8; (go_wp2_with fail); ((have hL := HL.out); clear HL; subst hL; simp only [List.drop_succ_cons, List.drop_zero]); (go_wp2_with fail); (refine (knownW_any w9).mono ?_); (rintro e w10 ⟨rfl, hb10⟩); (have w10_b := (S9.out.grow hb10).b); (go_wp2_with fail); go_ret; exact ⟨rfl, w10_b⟩)
    have t1 : (k == 1) = false := by rw [beq_eq_false_iff_ne]; exact k1
    ((refine wp_hold fun C HC => ?_); (go_wp2_with fail); (have hC := HC.out); clear HC; subst hC; (refine wp_cond_false rfl ?_))
    by_cases k2 : k = 2
    · have t2 : (k == 2) = true := by rw [k2]; rfl
      ((refine wp_hold fun C HC => ?_); (go_wp2_with fail); (have hC := HC.out); clear HC; subst hC; (refine wp_cond_true rfl ?_))
      obtain ⟨c0, c1, c2, c3, c4, c5, c6, c7, c8, c9, c10, c11, c12, c13, c14, c15, c16, c17, c18, c19, c20, c21, c22, c23, c24, c25, c26, c27, c28, c29, c30, c31, c32, c33, c34, c35, c36⟩ := wbox (show w5.heap[P]? = some (.cells (wdV d (.slice ao d.mp.zs.length zc) (.slice bo d.data.length bc)) 40 (0, 0)) from (by rw [← HV.out]; exact S.out.head))
      have sP := (S.out.cellsN 0 rfl).1
      obtain ⟨-, -, p3⟩ := S.out.cellsN 0 rfl
      clear c0 c1 c2 c3 c4 c6 c7 c8 c9 c10 c11 c12 c13 c14 c15 c16 c17 c18 c19 c20 c21 c22 c23 c24 c25 c26 c27 c28 c29 c30 c31 c32 c33 c34 c35 c36
      go_wp2_with fail
      clear c5 sP p3
      ((refine wp_name fun w6 hw6 => ?_); (obtain ⟨VX, hVX⟩ : ∃ VX, VX = wdV ({ d with off := 1099511627777 }) (.slice ao d.mp.zs.length zc) (.slice bo d.data.length bc) := ⟨_, rfl⟩); (have S6 : Hid (St w w6 [thObj P (.cells VX 40 (0, 0)), thObj B (.cells V 40 (0, 0))]) := (by have h := S.out.setObj 5 (.int .i64 1099511627777); rw [← hw6, show V.setIfInBounds 5 (.int .i64 1099511627777) = VX from (by rw [HV.out, hVX]; rfl)] at h; exact Lib.hid h)); clear hw6 S; (have HX := Lib.hid hVX); (have hsX : VX.size = 37 := (by rw [hVX]; rfl)); clear hVX; (have HLX : Hid (Light ({ d with off := 1099511627777 })) := Lib.hid ⟨HL1.out.mp, HL1.out.data, HL1.out.sf, HL1.out.st⟩); (have hC := HCT.out); clear HCT; subst hC; (refine wp_hold fun C HC => ?_); (refine wp_seq ?_); (refine wp_region_lit ?_); (refine wpList_load_row rfl 40 _ rfl P rfl _ _ _ _ (S6.out.head) Try.underlying40 rfl (by rw [hsX]; kernel_rfl) ?_); (go_wp2_with fail); (refine (wenc_any (d := { d with off := 1099511627777 }) HX.out ao bo zc bc rfl rfl w6 (HZ.out.grow S6.out.b) (Hsl.out.grow S6.out.b) HLX.out).mono ?_); (rintro e w7 ⟨hb7, he⟩); (rw [if_neg (by rw [bad_off d]; simp)] at he); subst he; (have S7 := Lib.hid (S6.out.grow hb7)); clear hb7 S6; (go_wp2_with fail); (have hC := HC.out); clear HC; subst hC; (refine wp_seq ?_); (refine wp_region_lit ?_); (refine wpList_load_row rfl 40 _ rfl B rfl _ _ _ _ ((S7.out.pull (A := [_])).head) Try.underlying40 rfl (by rw [hs]; kernel_rfl) ?_); ((refine list_hold 2 fun L HL => ?_); simp only [List.take_succ_cons, List.take_zero, List.cons_append, List.nil_append]; (go_wp2_with fail)); (refine (wmay_any HV.out ao bo zc bc rfl rfl w7 (HZ.out.grow S7.out.b) HL1.out.mp Hdl.out).mono ?_); (rintro e w8 ⟨rfl, hb8⟩); (rw [Hm.out]); (have S8 := Lib.hid (S7.out.grow hb8)); clear hb8 S7; (go_wp2_with fail); ((have hL := HL.out); clear HL; subst hL; simp only [List.drop_succ_cons, List.drop_zero]); (refine wpList_load_rowG (by rfl) 40 _ rfl P rfl _ _ _ _ (S8.out.head) Try.underlying40 rfl (by rw [hsX]; kernel_rfl) ?_); ((refine list_hold 4 fun L HL => ?_); simp only [List.take_succ_cons, List.take_zero, List.cons_append, List.nil_append]; (go_wp2_with fail)); (refine (wmay_any (d := { d with off := 1099511627777 }) HX.out ao bo zc bc rfl rfl w8 (HZ.out.grow S8.out.b) HLX.out.mp Hdl.out).mono ?_); (rintro e w9 ⟨rfl, hb9⟩); (rw [bad_off d]); (have S9 := Lib.hid (S8.out.grow hb9)); clear hb9 S8; (go_wp2_with fail); ((have hL := HL.out); clear HL; subst hL; simp only [List.drop_succ_cons, List.drop_zero]); (go_wp2_with fail); (refine (knownW_any w9).mono ?_); (rintro e w10 ⟨rfl, hb10⟩); (have w10_b := (S9.out.grow hb10).b); (go_wp2_with fail); go_ret; exact ⟨rfl, w10_b⟩)
    have t2 : (k == 2) = false := by rw [beq_eq_false_iff_ne]; exact k2
    ((refine wp_hold fun C HC => ?_); (go_wp2_with fail); (have hC := HC.out); clear HC; subst hC; (refine wp_cond_false rfl ?_))
    by_cases k3 : k = 3
    · have t3 : (k == 3) = true := by rw [k3]; rfl
      ((refine wp_hold fun C HC => ?_); (go_wp2_with fail); (have hC := HC.out); clear HC; subst hC; (refine wp_cond_true rfl ?_))
      obtain ⟨c0, c1, c2, c3, c4, c5, c6, c7, c8, c9, c10, c11, c12, c13, c14, c15, c16, c17, c18, c19, c20, c21, c22, c23, c24, c25, c26, c27, c28, c29, c30, c31, c32, c33, c34, c35, c36⟩ := wbox (show w5.heap[P]? = some (.cells (wdV d (.slice ao d.mp.zs.length zc) (.slice bo d.data.length bc)) 40 (0, 0)) from (by rw [← HV.out]; exact S.out.head))
      have sP := (S.out.cellsN 0 rfl).1
      obtain ⟨-, -, p3⟩ := S.out.cellsN 0 rfl
      clear c0 c1 c2 c3 c4 c5 c7 c8 c9 c10 c11 c12 c13 c14 c15 c16 c17 c18 c19 c20 c21 c22 c23 c24 c25 c26 c27 c28 c29 c30 c31 c32 c33 c34 c35 c36
      go_wp2_with fail
      clear c6 sP p3
      ((refine wp_name fun w6 hw6 => ?_); (obtain ⟨VX, hVX⟩ : ∃ VX, VX = wdV ({ d with host := -1 }) (.slice ao d.mp.zs.length zc) (.slice bo d.data.length bc) := ⟨_, rfl⟩); (have S6 : Hid (St w w6 [thObj P (.cells VX 40 (0, 0)), thObj B (.cells V 40 (0, 0))]) := (by have h := S.out.setObj 6 (.int .i64 (-1)); rw [← hw6, show V.setIfInBounds 6 (.int .i64 (-1)) = VX from (by rw [HV.out, hVX]; rfl)] at h; exact Lib.hid h)); clear hw6 S; (have HX := Lib.hid hVX); (have hsX : VX.size = 37 := (by rw [hVX]; rfl)); clear hVX; (have HLX : Hid (Light ({ d with host := -1 })) := Lib.hid ⟨HL1.out.mp, HL1.out.data, HL1.out.sf, HL1.out.st⟩); (have hC := HCT.out); clear HCT; subst hC; (refine wp_hold fun C HC => ?_); (refine wp_seq ?_); (refine wp_region_lit ?_); (refine wpList_load_row rfl 40 _ rfl P rfl _ _ _ _ (S6.out.head) Try.underlying40 rfl (by rw [hsX]; kernel_rfl) ?_); (go_wp2_with fail); (refine (wenc_any (d := { d with host := -1 }) HX.out ao bo zc bc rfl rfl w6 (HZ.out.grow S6.out.b) (Hsl.out.grow S6.out.b) HLX.out).mono ?_); (rintro e w7 ⟨hb7, he⟩); (rw [if_neg (by rw [bad_host d]; simp)] at he); subst he; (have S7 := Lib.hid (S6.out.grow hb7)); clear hb7 S6; (go_wp2_with fail); (have hC := HC.out); clear HC; subst hC; (refine wp_seq ?_); (refine wp_region_lit ?_); (refine wpList_load_row rfl 40 _ rfl B rfl _ _ _ _ ((S7.out.pull (A := [_])).head) Try.underlying40 rfl (by rw [hs]; kernel_rfl) ?_); ((refine list_hold 2 fun L HL => ?_); simp only [List.take_succ_cons, List.take_zero, List.cons_append, List.nil_append]; (go_wp2_with fail)); (refine (wmay_any HV.out ao bo zc bc rfl rfl w7 (HZ.out.grow S7.out.b) HL1.out.mp Hdl.out).mono ?_); (rintro e w8 ⟨rfl, hb8⟩); (rw [Hm.out]); (have S8 := Lib.hid (S7.out.grow hb8)); clear hb8 S7; (go_wp2_with fail); ((have hL := HL.out); clear HL; subst hL; simp only [List.drop_succ_cons, List.drop_zero]); (refine wpList_load_rowG (by rfl) 40 _ rfl P rfl _ _ _ _ (S8.out.head) Try.underlying40 rfl (by rw [hsX]; kernel_rfl) ?_); ((refine list_hold 4 fun L HL => ?_); simp only [List.take_succ_cons, List.take_zero, List.cons_append, List.nil_append]; (go_wp2_with fail)); (refine (wmay_any (d := { d with host := -1 }) HX.out ao bo zc bc rfl rfl w8 (HZ.out.grow S8.out.b) HLX.out.mp Hdl.out).mono ?_); (rintro e w9 ⟨rfl, hb9⟩); (rw [bad_host d]); (have S9 := Lib.hid (S8.out.grow hb9)); clear hb9 S8; (go_wp2_with fail); ((have hL := HL.out); clear HL; subst hL; simp only [List.drop_succ_cons, List.drop_zero]); (go_wp2_with fail); (refine (knownW_any w9).mono ?_); (rintro e w10 ⟨rfl, hb10⟩); (have w10_b := (S9.out.grow hb10).b); (go_wp2_with fail); go_ret; exact ⟨rfl, w10_b⟩)
    have t3 : (k == 3) = false := by rw [beq_eq_false_iff_ne]; exact k3
    ((refine wp_hold fun C HC => ?_); (go_wp2_with fail); (have hC := HC.out); clear HC; subst hC; (refine wp_cond_false rfl ?_))
    by_cases k4 : k = 4
    · have t4 : (k == 4) = true := by rw [k4]; rfl
      ((refine wp_hold fun C HC => ?_); (go_wp2_with fail); (have hC := HC.out); clear HC; subst hC; (refine wp_cond_true rfl ?_))
      obtain ⟨c0, c1, c2, c3, c4, c5, c6, c7, c8, c9, c10, c11, c12, c13, c14, c15, c16, c17, c18, c19, c20, c21, c22, c23, c24, c25, c26, c27, c28, c29, c30, c31, c32, c33, c34, c35, c36⟩ := wbox (show w5.heap[P]? = some (.cells (wdV d (.slice ao d.mp.zs.length zc) (.slice bo d.data.length bc)) 40 (0, 0)) from (by rw [← HV.out]; exact S.out.head))
      have sP := (S.out.cellsN 0 rfl).1
      obtain ⟨-, -, p3⟩ := S.out.cellsN 0 rfl
      clear c0 c1 c2 c3 c4 c5 c6 c8 c9 c10 c11 c12 c13 c14 c15 c16 c17 c18 c19 c20 c21 c22 c23 c24 c25 c26 c27 c28 c29 c30 c31 c32 c33 c34 c35 c36
      go_wp2_with fail
      clear c7 sP p3
      ((refine wp_name fun w6 hw6 => ?_); (obtain ⟨VX, hVX⟩ : ∃ VX, VX = wdV ({ d with err := 20 }) (.slice ao d.mp.zs.length zc) (.slice bo d.data.length bc) := ⟨_, rfl⟩); (have S6 : Hid (St w w6 [thObj P (.cells VX 40 (0, 0)), thObj B (.cells V 40 (0, 0))]) := (by have h := S.out.setObj 7 (.int .i64 20); rw [← hw6, show V.setIfInBounds 7 (.int .i64 20) = VX from (by rw [HV.out, hVX]; rfl)] at h; exact Lib.hid h)); clear hw6 S; (have HX := Lib.hid hVX); (have hsX : VX.size = 37 := (by rw [hVX]; rfl)); clear hVX; (have HLX : Hid (Light ({ d with err := 20 })) := Lib.hid ⟨HL1.out.mp, HL1.out.data, HL1.out.sf, HL1.out.st⟩); (have hC := HCT.out); clear HCT; subst hC; (refine wp_hold fun C HC => ?_); (refine wp_seq ?_); (refine wp_region_lit ?_); (refine wpList_load_row rfl 40 _ rfl P rfl _ _ _ _ (S6.out.head) Try.underlying40 rfl (by rw [hsX]; kernel_rfl) ?_); (go_wp2_with fail); (refine (wenc_any (d := { d with err := 20 }) HX.out ao bo zc bc rfl rfl w6 (HZ.out.grow S6.out.b) (Hsl.out.grow S6.out.b) HLX.out).mono ?_); (rintro e w7 ⟨hb7, he⟩); (rw [if_neg (by rw [bad_err d]; simp)] at he); subst he; (have S7 := Lib.hid (S6.out.grow hb7)); clear hb7 S6; (go_wp2_with fail); (have hC := HC.out); clear HC; subst hC; (refine wp_seq ?_); (refine wp_region_lit ?_); (refine wpList_load_row rfl 40 _ rfl B rfl _ _ _ _ ((S7.out.pull (A := [_])).head) Try.underlying40 rfl (by rw [hs]; kernel_rfl) ?_); ((refine list_hold 2 fun L HL => ?_); simp only [List.take_succ_cons, List.take_zero, List.cons_append, List.nil_append]; (go_wp2_with fail)); (refine (wmay_any HV.out ao bo zc bc rfl rfl w7 (HZ.out.grow S7.out.b) HL1.out.mp Hdl.out).mono ?_); (rintro e w8 ⟨rfl, hb8⟩); (rw [Hm.out]); (have S8 := Lib.hid (S7.out.grow hb8)); clear hb8 S7; (go_wp2_with fail); ((have hL := HL.out); clear HL; subst hL; simp only [List.drop_succ_cons, List.drop_zero]); (refine wpList_load_rowG (by rfl) 40 _ rfl P rfl _ _ _ _ (S8.out.head) Try.underlying40 rfl (by rw [hsX]; kernel_rfl) ?_); ((refine list_hold 4 fun L HL => ?_); simp only [List.take_succ_cons, List.take_zero, List.cons_append, List.nil_append]; (go_wp2_with fail)); (refine (wmay_any (d := { d with err := 20 }) HX.out ao bo zc bc rfl rfl w8 (HZ.out.grow S8.out.b) HLX.out.mp Hdl.out).mono ?_); (rintro e w9 ⟨rfl, hb9⟩); (rw [bad_err d]); (have S9 := Lib.hid (S8.out.grow hb9)); clear hb9 S8; (go_wp2_with fail); ((have hL := HL.out); clear HL; subst hL; simp only [List.drop_succ_cons, List.drop_zero]); (go_wp2_with fail); (refine (knownW_any w9).mono ?_); (rintro e w10 ⟨rfl, hb10⟩); (have w10_b := (S9.out.grow hb10).b); (go_wp2_with fail); go_ret; exact ⟨rfl, w10_b⟩)
    have t4 : (k == 4) = false := by rw [beq_eq_false_iff_ne]; exact k4
    ((refine wp_hold fun C HC => ?_); (go_wp2_with fail); (have hC := HC.out); clear HC; subst hC; (refine wp_cond_false rfl ?_))
    by_cases k5 : k = 5
    · have t5 : (k == 5) = true := by rw [k5]; rfl
      ((refine wp_hold fun C HC => ?_); (go_wp2_with fail); (have hC := HC.out); clear HC; subst hC; (refine wp_cond_true rfl ?_))
      obtain ⟨c0, c1, c2, c3, c4, c5, c6, c7, c8, c9, c10, c11, c12, c13, c14, c15, c16, c17, c18, c19, c20, c21, c22, c23, c24, c25, c26, c27, c28, c29, c30, c31, c32, c33, c34, c35, c36⟩ := wbox (show w5.heap[P]? = some (.cells (wdV d (.slice ao d.mp.zs.length zc) (.slice bo d.data.length bc)) 40 (0, 0)) from (by rw [← HV.out]; exact S.out.head))
      have sP := (S.out.cellsN 0 rfl).1
      obtain ⟨-, -, p3⟩ := S.out.cellsN 0 rfl
      clear c0 c1 c2 c3 c4 c5 c6 c7 c9 c10 c11 c12 c13 c14 c15 c16 c17 c18 c19 c20 c21 c22 c23 c24 c25 c26 c27 c28 c29 c30 c31 c32 c33 c34 c35 c36
      go_wp2_with fail
      clear c8 sP p3
      ((refine wp_name fun w6 hw6 => ?_); (obtain ⟨VX, hVX⟩ : ∃ VX, VX = wdV ({ d with sf := badS }) (.slice ao d.mp.zs.length zc) (.slice bo d.data.length bc) := ⟨_, rfl⟩); (have S6 : Hid (St w w6 [thObj P (.cells VX 40 (0, 0)), thObj B (.cells V 40 (0, 0))]) := (by have h := S.out.setObj 8 (.string ⟨#[49, 50, 51, 52, 53, 54, 55, 56, 57, 48, 49, 50, 51, 52, 53, 54, 55]⟩); rw [← hw6, show V.setIfInBounds 8 (.string ⟨#[49, 50, 51, 52, 53, 54, 55, 56, 57, 48, 49, 50, 51, 52, 53, 54, 55]⟩) = VX from (by rw [HV.out, hVX]; rfl)] at h; exact Lib.hid h)); clear hw6 S; (have HX := Lib.hid hVX); (have hsX : VX.size = 37 := (by rw [hVX]; rfl)); clear hVX; (have HLX : Hid (Light ({ d with sf := badS })) := Lib.hid ⟨HL1.out.mp, HL1.out.data, (show badS.size ≤ 60 from by decide), HL1.out.st⟩); (have hC := HCT.out); clear HCT; subst hC; (refine wp_hold fun C HC => ?_); (refine wp_seq ?_); (refine wp_region_lit ?_); (refine wpList_load_row rfl 40 _ rfl P rfl _ _ _ _ (S6.out.head) Try.underlying40 rfl (by rw [hsX]; kernel_rfl) ?_); (go_wp2_with fail); (refine (wenc_any (d := { d with sf := badS }) HX.out ao bo zc bc rfl rfl w6 (HZ.out.grow S6.out.b) (Hsl.out.grow S6.out.b) HLX.out).mono ?_); (rintro e w7 ⟨hb7, he⟩); (rw [if_neg (by rw [bad_span d]; simp)] at he); subst he; (have S7 := Lib.hid (S6.out.grow hb7)); clear hb7 S6; (go_wp2_with fail); (have hC := HC.out); clear HC; subst hC; (refine wp_seq ?_); (refine wp_region_lit ?_); (refine wpList_load_row rfl 40 _ rfl B rfl _ _ _ _ ((S7.out.pull (A := [_])).head) Try.underlying40 rfl (by rw [hs]; kernel_rfl) ?_); ((refine list_hold 2 fun L HL => ?_); simp only [List.take_succ_cons, List.take_zero, List.cons_append, List.nil_append]; (go_wp2_with fail)); (refine (wmay_any HV.out ao bo zc bc rfl rfl w7 (HZ.out.grow S7.out.b) HL1.out.mp Hdl.out).mono ?_); (rintro e w8 ⟨rfl, hb8⟩); (rw [Hm.out]); (have S8 := Lib.hid (S7.out.grow hb8)); clear hb8 S7; (go_wp2_with fail); ((have hL := HL.out); clear HL; subst hL; simp only [List.drop_succ_cons, List.drop_zero]); (refine wpList_load_rowG (by rfl) 40 _ rfl P rfl _ _ _ _ (S8.out.head) Try.underlying40 rfl (by rw [hsX]; kernel_rfl) ?_); ((refine list_hold 4 fun L HL => ?_); simp only [List.take_succ_cons, List.take_zero, List.cons_append, List.nil_append]; (go_wp2_with fail)); (refine (wmay_any (d := { d with sf := badS }) HX.out ao bo zc bc rfl rfl w8 (HZ.out.grow S8.out.b) HLX.out.mp Hdl.out).mono ?_); (rintro e w9 ⟨rfl, hb9⟩); (rw [bad_span d]); (have S9 := Lib.hid (S8.out.grow hb9)); clear hb9 S8; (go_wp2_with fail); ((have hL := HL.out); clear HL; subst hL; simp only [List.drop_succ_cons, List.drop_zero]); (go_wp2_with fail); (refine (knownW_any w9).mono ?_); (rintro e w10 ⟨rfl, hb10⟩); (have w10_b := (S9.out.grow hb10).b); (go_wp2_with fail); go_ret; exact ⟨rfl, w10_b⟩)
    have t5 : (k == 5) = false := by rw [beq_eq_false_iff_ne]; exact k5
    ((refine wp_hold fun C HC => ?_); (go_wp2_with fail); (have hC := HC.out); clear HC; subst hC; (refine wp_cond_false rfl ?_))
    by_cases k6 : k = 6
    · have t6 : (k == 6) = true := by rw [k6]; rfl
      ((refine wp_hold fun C HC => ?_); (go_wp2_with fail); (have hC := HC.out); clear HC; subst hC; (refine wp_cond_true rfl ?_))
      obtain ⟨c0, c1, c2, c3, c4, c5, c6, c7, c8, c9, c10, c11, c12, c13, c14, c15, c16, c17, c18, c19, c20, c21, c22, c23, c24, c25, c26, c27, c28, c29, c30, c31, c32, c33, c34, c35, c36⟩ := wbox (show w5.heap[P]? = some (.cells (wdV d (.slice ao d.mp.zs.length zc) (.slice bo d.data.length bc)) 40 (0, 0)) from (by rw [← HV.out]; exact S.out.head))
      have sP := (S.out.cellsN 0 rfl).1
      obtain ⟨-, -, p3⟩ := S.out.cellsN 0 rfl
      clear c0 c1 c2 c3 c4 c5 c6 c7 c8 c9 c10 c12 c13 c14 c15 c16 c17 c18 c19 c20 c21 c22 c23 c24 c25 c26 c27 c28 c29 c30 c31 c32 c33 c34 c35 c36
      go_wp2_with fail
      clear c11 sP p3
      ((refine wp_name fun w6 hw6 => ?_); (obtain ⟨VX, hVX⟩ : ∃ VX, VX = wdV ({ d with op := { d.op with client := 1048577 } }) (.slice ao d.mp.zs.length zc) (.slice bo d.data.length bc) := ⟨_, rfl⟩); (have S6 : Hid (St w w6 [thObj P (.cells VX 40 (0, 0)), thObj B (.cells V 40 (0, 0))]) := (by have h := S.out.setObj 11 (.int .i64 1048577); rw [← hw6, show V.setIfInBounds 11 (.int .i64 1048577) = VX from (by rw [HV.out, hVX]; rfl)] at h; exact Lib.hid h)); clear hw6 S; (have HX := Lib.hid hVX); (have hsX : VX.size = 37 := (by rw [hVX]; rfl)); clear hVX; (have HLX : Hid (Light ({ d with op := { d.op with client := 1048577 } })) := Lib.hid ⟨HL1.out.mp, HL1.out.data, HL1.out.sf, HL1.out.st⟩); (have hC := HCT.out); clear HCT; subst hC; (refine wp_hold fun C HC => ?_); (refine wp_seq ?_); (refine wp_region_lit ?_); (refine wpList_load_row rfl 40 _ rfl P rfl _ _ _ _ (S6.out.head) Try.underlying40 rfl (by rw [hsX]; kernel_rfl) ?_); (go_wp2_with fail); (refine (wenc_any (d := { d with op := { d.op with client := 1048577 } }) HX.out ao bo zc bc rfl rfl w6 (HZ.out.grow S6.out.b) (Hsl.out.grow S6.out.b) HLX.out).mono ?_); (rintro e w7 ⟨hb7, he⟩); (rw [if_neg (by rw [bad_client d]; simp)] at he); subst he; (have S7 := Lib.hid (S6.out.grow hb7)); clear hb7 S6; (go_wp2_with fail); (have hC := HC.out); clear HC; subst hC; (refine wp_seq ?_); (refine wp_region_lit ?_); (refine wpList_load_row rfl 40 _ rfl B rfl _ _ _ _ ((S7.out.pull (A := [_])).head) Try.underlying40 rfl (by rw [hs]; kernel_rfl) ?_); ((refine list_hold 2 fun L HL => ?_); simp only [List.take_succ_cons, List.take_zero, List.cons_append, List.nil_append]; (go_wp2_with fail)); (refine (wmay_any HV.out ao bo zc bc rfl rfl w7 (HZ.out.grow S7.out.b) HL1.out.mp Hdl.out).mono ?_); (rintro e w8 ⟨rfl, hb8⟩); (rw [Hm.out]); (have S8 := Lib.hid (S7.out.grow hb8)); clear hb8 S7; (go_wp2_with fail); ((have hL := HL.out); clear HL; subst hL; simp only [List.drop_succ_cons, List.drop_zero]); (refine wpList_load_rowG (by rfl) 40 _ rfl P rfl _ _ _ _ (S8.out.head) Try.underlying40 rfl (by rw [hsX]; kernel_rfl) ?_); ((refine list_hold 4 fun L HL => ?_); simp only [List.take_succ_cons, List.take_zero, List.cons_append, List.nil_append]; (go_wp2_with fail)); (refine (wmay_any (d := { d with op := { d.op with client := 1048577 } }) HX.out ao bo zc bc rfl rfl w8 (HZ.out.grow S8.out.b) HLX.out.mp Hdl.out).mono ?_); (rintro e w9 ⟨rfl, hb9⟩); (rw [bad_client d]); (have S9 := Lib.hid (S8.out.grow hb9)); clear hb9 S8; (go_wp2_with fail); ((have hL := HL.out); clear HL; subst hL; simp only [List.drop_succ_cons, List.drop_zero]); (go_wp2_with fail); (refine (knownW_any w9).mono ?_); (rintro e w10 ⟨rfl, hb10⟩); (have w10_b := (S9.out.grow hb10).b); (go_wp2_with fail); go_ret; exact ⟨rfl, w10_b⟩)
    have t6 : (k == 6) = false := by rw [beq_eq_false_iff_ne]; exact k6
    ((refine wp_hold fun C HC => ?_); (go_wp2_with fail); (have hC := HC.out); clear HC; subst hC; (refine wp_cond_false rfl ?_))
    obtain ⟨c0, c1, c2, c3, c4, c5, c6, c7, c8, c9, c10, c11, c12, c13, c14, c15, c16, c17, c18, c19, c20, c21, c22, c23, c24, c25, c26, c27, c28, c29, c30, c31, c32, c33, c34, c35, c36⟩ := wbox (show w5.heap[P]? = some (.cells (wdV d (.slice ao d.mp.zs.length zc) (.slice bo d.data.length bc)) 40 (0, 0)) from (by rw [← HV.out]; exact S.out.head))
    have sP := (S.out.cellsN 0 rfl).1
    obtain ⟨-, -, p3⟩ := S.out.cellsN 0 rfl
    clear c0 c1 c2 c3 c4 c5 c6 c7 c8 c9 c10 c11 c12 c13 c14 c15 c16 c17 c18 c19 c20 c21 c22 c23 c24 c25 c26 c27 c28 c29 c30 c31 c33 c34 c35 c36
    go_wp2_with fail
    clear c32 sP p3
    ((refine wp_name fun w6 hw6 => ?_); (obtain ⟨VX, hVX⟩ : ∃ VX, VX = wdV ({ d with ch := { d.ch with zone := -1 } }) (.slice ao d.mp.zs.length zc) (.slice bo d.data.length bc) := ⟨_, rfl⟩); (have S6 : Hid (St w w6 [thObj P (.cells VX 40 (0, 0)), thObj B (.cells V 40 (0, 0))]) := (by have h := S.out.setObj 32 (.int .i64 (-1)); rw [← hw6, show V.setIfInBounds 32 (.int .i64 (-1)) = VX from (by rw [HV.out, hVX]; rfl)] at h; exact Lib.hid h)); clear hw6 S; (have HX := Lib.hid hVX); (have hsX : VX.size = 37 := (by rw [hVX]; rfl)); clear hVX; (have HLX : Hid (Light ({ d with ch := { d.ch with zone := -1 } })) := Lib.hid ⟨HL1.out.mp, HL1.out.data, HL1.out.sf, HL1.out.st⟩); (have hC := HCT.out); clear HCT; subst hC; (refine wp_hold fun C HC => ?_); (refine wp_seq ?_); (refine wp_region_lit ?_); (refine wpList_load_row rfl 40 _ rfl P rfl _ _ _ _ (S6.out.head) Try.underlying40 rfl (by rw [hsX]; kernel_rfl) ?_); (go_wp2_with fail); (refine (wenc_any (d := { d with ch := { d.ch with zone := -1 } }) HX.out ao bo zc bc rfl rfl w6 (HZ.out.grow S6.out.b) (Hsl.out.grow S6.out.b) HLX.out).mono ?_); (rintro e w7 ⟨hb7, he⟩); (rw [if_neg (by rw [bad_change d]; simp)] at he); subst he; (have S7 := Lib.hid (S6.out.grow hb7)); clear hb7 S6; (go_wp2_with fail); (have hC := HC.out); clear HC; subst hC; (refine wp_seq ?_); (refine wp_region_lit ?_); (refine wpList_load_row rfl 40 _ rfl B rfl _ _ _ _ ((S7.out.pull (A := [_])).head) Try.underlying40 rfl (by rw [hs]; kernel_rfl) ?_); ((refine list_hold 2 fun L HL => ?_); simp only [List.take_succ_cons, List.take_zero, List.cons_append, List.nil_append]; (go_wp2_with fail)); (refine (wmay_any HV.out ao bo zc bc rfl rfl w7 (HZ.out.grow S7.out.b) HL1.out.mp Hdl.out).mono ?_); (rintro e w8 ⟨rfl, hb8⟩); (rw [Hm.out]); (have S8 := Lib.hid (S7.out.grow hb8)); clear hb8 S7; (go_wp2_with fail); ((have hL := HL.out); clear HL; subst hL; simp only [List.drop_succ_cons, List.drop_zero]); (refine wpList_load_rowG (by rfl) 40 _ rfl P rfl _ _ _ _ (S8.out.head) Try.underlying40 rfl (by rw [hsX]; kernel_rfl) ?_); ((refine list_hold 4 fun L HL => ?_); simp only [List.take_succ_cons, List.take_zero, List.cons_append, List.nil_append]; (go_wp2_with fail)); (refine (wmay_any (d := { d with ch := { d.ch with zone := -1 } }) HX.out ao bo zc bc rfl rfl w8 (HZ.out.grow S8.out.b) HLX.out.mp Hdl.out).mono ?_); (rintro e w9 ⟨rfl, hb9⟩); (rw [bad_change d]); (have S9 := Lib.hid (S8.out.grow hb9)); clear hb9 S8; (go_wp2_with fail); ((have hL := HL.out); clear HL; subst hL; simp only [List.drop_succ_cons, List.drop_zero]); (go_wp2_with fail); (refine (knownW_any w9).mono ?_); (rintro e w10 ⟨rfl, hb10⟩); (have w10_b := (S9.out.grow hb10).b); (go_wp2_with fail); go_ret; exact ⟨rfl, w10_b⟩)
namespace WireFieldsLift
open Go.ChangeShapes Go.WideShapes Go.ChangeAt Go.RowKit Go.Joins Go.Deep
open Go.ChangeMaps (open_string shut_string)

theorem own : ownKnob Try.prog.godebug = none := by kernel_rfl
theorem laidOut : laidOutB Try.prog = true := by kernel_rfl

set_option maxHeartbeats 1000000 in
set_option maxRecDepth 100000 in
theorem lifted (os : Os) (started : os.Started) (H : Type) (enc : TypeId × Value → H) :
    ReturnsInHanded {} Try.checked os 3 .any (Rows.wireFieldsSpec.pre6 enc Try.prog Try.f3 Rows.wireFieldsRow.domain false) (Rows.wireFieldsSpec.post enc Try.prog Try.f3 false true false false) := by
  refine returnsInHanded_of_change_sized (C := Try.checked) own started (by kernel_rfl) Try.func3
    (ChangeSpec.witness6 (enc := enc) (C := Try.checked) false ⟨#[], #[.agg #[.int .i64 0, .int .i64 0, .int .i64 0, .int .i64 0, .int .i64 0, .int .i64 0, .int .i64 0, .int .i64 0, .string ⟨#[]⟩, .string ⟨#[]⟩, .int .i64 0, .int .i64 0, .int .i64 0, .string ⟨#[]⟩, .string ⟨#[]⟩, .string ⟨#[]⟩, .string ⟨#[]⟩, .int .i64 0, .int .i64 0, .int .i64 0, .bool false, .int .i64 0, .int .i64 0, .int .i64 0, .int .i64 0, .int .i64 0, .int .i64 0, .int .i64 0, .int .i64 0, .int .i64 0, .slice none 0 0, .int .i64 0, .int .i64 0, .int .i64 0, .int .i64 0, .string ⟨#[]⟩, .slice none 0 0], .int .i64 0], []⟩ 8 (by kernel_rfl) (by kernel_rfl) (by kernel_rfl) (by kernel_rfl)) ?_
  intro W base args ds gs before hval0 hW hcnd hsz0 _
  have hval : ∀ (j : Nat) t v, Try.f3.params[j]? = some t → args[j]? = some v → Value.okWide Try.prog W .any base t v := hval0
  have hW' := hW
  obtain ⟨p, q, hA0, hV, rfl, hfz, hnd⟩ := hW
  have hA : DataW.TrodAll enc Try.prog W 0 (fun _ => true) true Try.f3.params.toList args.toList ds p := hA0
  have hsz : (DataW.weightsEach Try.prog (Try.f3.params.toList ++ Rows.wireFieldsSpec.plain.varTypes Try.prog) (ds ++ gs)).all (· ≤ reachBytes) = true := hsz0
  rw [Try.params3] at hA hval hsz
  obtain ⟨v0, vs0, d0, ds0, p0, q0, hargs, rfl, rfl, h0, r0⟩ := trodAll_cons hA
  obtain ⟨v1, vs1, d1, ds1, p1, q1, rfl, rfl, rfl, h1, r1⟩ := trodAll_cons r0
  obtain ⟨rfl, rfl, rfl⟩ := trodAll_nil r1
  obtain rfl : args = #[v0, v1] := by cases args; simp_all
  obtain ⟨rfl, rfl⟩ := trodVars_none hV
  have k0 := h0
  have lt0 : ∀ x ∈ p0, x.block < W.heap.size := by obtain ⟨m, hm⟩ := k0; exact DataW.trod_lt m _ _ _ hm
  have k1 := h1
  have lt1 : ∀ x ∈ p1, x.block < W.heap.size := by obtain ⟨m, hm⟩ := k1; exact DataW.trod_lt m _ _ _ hm
  have post : ∀ e W', e = Ending.returned (.bool true) → Below W.heap.size W W' → ∃ v, e = .returned v ∧ Rows.wireFieldsSpec.post enc Try.prog Try.f3 false true false false W #[v0, v1] v W' := by
    intro e W' he bel
    subst he
    exact ⟨_, rfl, _, _, _, [], _, [], hW', trodAll_mk1 (shut_bool Try.underlying4 _), (trodAll_cons_mk (Below.trod laidOut (by kernel_rfl) (of_decide_eq_true (by kernel_rfl)) k0 bel lt0) (trodAll_cons_mk (Below.trod laidOut (by kernel_rfl) (of_decide_eq_true (by kernel_rfl)) k1 bel lt1) trodAll_mk0)), rfl, bel.frame _, fun h => by cases h⟩
  clear hW' hcnd hfz hnd hA0 hA hval0
  obtain ⟨d, ao, zc, bo, bc, rfl, hm1, hm2, hm3, hb1, hb2, hb3, hb4⟩ := open_word (hval 0 40 v0 rfl rfl) h0
  obtain ⟨which, rfl⟩ := okWide_int Try.underlying3 (hval 1 3 v1 rfl rfl)
  exact (fields_walk ao bo zc bc rfl which W hm3 (by unfold maxLen at hm2; omega) ⟨hb1, by unfold maxLen at hb2; omega, hb3, hb4⟩).mono fun e W' ⟨he, bel⟩ => post e W' he bel

theorem over : Rows.wireFieldsRow.holds Try.pinned (OpenSpec.ofChange Rows.wireFieldsSpec) :=
  OpenClaim.holds_of_wide 3 Try.f3 rfl rfl rfl rfl rfl rfl rfl ⟨rfl, rfl, rfl, rfl, rfl⟩ rfl rfl rfl rfl rfl (by kernel_rfl) Try.func3 (by kernel_rfl)
    (of_decide_eq_true (by kernel_rfl)) (by unfold Func.isWrapper; first | (rw [if_pos (by decide +kernel)]; kernel_rfl) | (rw [if_neg (by decide +kernel)]; exact ⟨rfl, rfl⟩))
    (fun os started H enc _ => lifted os started H enc)
end WireFieldsLift

/-- The statement. -/
theorem wireFields_holds : Rows.WireFieldsSaid := WireFieldsLift.over
#print axioms wireFields_holds
end Go.Proofs.Ythlcmjgdilebeaa
