/- WireApart: two words that are not one have other bytes. It holds of all arguments, without a condition. -/
import Derived.Test.YthlcmjgdilebeaaPbEx
import Derived.Test.YthlcmjgdilebeaaRows
namespace Go.Proofs.Ythlcmjgdilebeaa
set_option maxRecDepth 20000
open Go.RowKit

def bytesW (d : Wd) : List UInt8 := if mayW d = true then encW d else []
def codeW (d : Wd) : Int := if mayW d = true then 0 else 1
theorem enc_one {w : World} {d : Wd} {e : Ending} {w' : World} (h : EncWPost w d e w') : Below w.heap.size w w' ∧ ∃ xo xc, e = .returned (.tuple #[.slice xo (bytesW d).length xc, .int .i64 (codeW d)]) ∧ F.Sl w' xo xc (bytesW d) := by
  obtain ⟨hb, h⟩ := h
  refine ⟨hb, ?_⟩
  unfold bytesW codeW
  cases hm : mayW d with
  | true =>
    rw [if_pos hm] at h
    obtain ⟨ao, cap, rfl, ho⟩ := h
    exact ⟨ao, cap, rfl, ho.sl⟩
  | false =>
    rw [if_neg (by rw [hm]; simp)] at h
    subst h
    exact ⟨none, 0, rfl, sl_nil w'⟩
set_option maxHeartbeats 8000000 in
theorem apart_walk {a b : Wd} {V1 V2 : Array Value} (a1 a2 d1 d2 : Option Addr) (k1 k2 c1 c2 : Nat) (hV1 : V1 = wdV a (.slice a1 a.mp.zs.length k1) (.slice d1 a.data.length c1)) (hV2 : V2 = wdV b (.slice a2 b.mp.zs.length k2) (.slice d2 b.data.length c2)) (w : World)
    (hz1 : O.ZsAt w a1 a.mp.zs) (hz2 : O.ZsAt w a2 b.mp.zs) (hl1 : a.mp.zs.length ≤ 9223372036854775807) (hl2 : b.mp.zs.length ≤ 9223372036854775807) (hd1 : F.Sl w d1 c1 a.data) (hd2 : F.Sl w d2 c2 b.data) :
    Calls Try.prog 4 #[.agg V1, .agg V2] w fun e w' => e = .returned (.bool true) ∧ Below w.heap.size w w' := by
  have HV1 := Lib.hid hV1
  have HV2 := Lib.hid hV2
  have HZ1 := Lib.hid hz1
  have HZ2 := Lib.hid hz2
  have Hd1 := Lib.hid hd1
  have Hd2 := Lib.hid hd2
  have hs1 : V1.size = 37 := by rw [hV1]; rfl
  have hs2 : V2.size = 37 := by rw [hV2]; rfl
  have Hdl1 : Hid (a.data.length ≤ 9223372036854775807) := Lib.hid (by have := hd1.le; have := hd1.cm; omega)
  have Hdl2 : Hid (b.data.length ≤ 9223372036854775807) := Lib.hid (by have := hd2.le; have := hd2.cm; omega)
  clear hV1 hV2 hz1 hz2 hd1 hd2
  go_enter Try.func4, Try.ntmps4
  refine wp_hold fun C HC => ?_
  go_wp2_with fail
  refine wp_name fun wa hwa => ?_
  obtain ⟨B, hB⟩ : ∃ B, B = w.heap.size := ⟨_, rfl⟩
  have S : Hid (St w wa [thObj (B + 1) (.cells V2 40 (0, 0)), thObj B (.cells V1 40 (0, 0))]) := by
    rw [hwa]
    exact Lib.hid (((St.start w).objN _ B hB).objN _ (B + 1) (by rw [hB]; simp))
  rw [← hB]
  clear hwa hB
  (have hC := HC.out); clear HC; subst hC
  refine wp_hold fun C HC => ?_
  refine wp_seq ?_
  refine wp_seq ?_
  refine wp_region_lit ?_
  (refine wpList_load_row rfl 40 _ rfl (B) rfl _ _ _ _ (((S.out.pull (A := [_])).head)) Try.underlying40 rfl (by rw [hs1]; kernel_rfl) ?_)
  ((refine list_hold 2 fun L HL => ?_); simp only [List.take_succ_cons, List.take_zero, List.cons_append, List.nil_append]; (go_wp2_with fail))
  refine (heavyW_any HV1.out a1 d1 k1 c1 rfl rfl wa (HZ1.out.grow S.out.b) hl1 Hdl1.out).mono ?_
  rintro e w1 ⟨hb1, he⟩
  have S := Lib.hid (S.out.grow hb1)
  clear hb1
  rcases he with rfl | ⟨rfl, hli, -⟩
  · go_wp2_with fail
    ((have hL := HL.out); clear HL; subst hL; simp only [List.drop_succ_cons, List.drop_zero])
    go_wp2_with fail
    go_ret
    exact ⟨rfl, S.out.b⟩
  have HL1 := Lib.hid hli
  clear hli
  go_wp2_with fail
  ((have hL := HL.out); clear HL; subst hL; simp only [List.drop_succ_cons, List.drop_zero])
  (refine wpList_load_rowG (by rfl) 40 _ rfl (B + 1) rfl _ _ _ _ ((S.out.head)) Try.underlying40 rfl (by rw [hs2]; kernel_rfl) ?_)
  go_wp2_with fail
  refine (heavyW_any HV2.out a2 d2 k2 c2 rfl rfl w1 (HZ2.out.grow S.out.b) hl2 Hdl2.out).mono ?_
  rintro e w2 ⟨hb1, he⟩
  have S := Lib.hid (S.out.grow hb1)
  clear hb1
  rcases he with rfl | ⟨rfl, hli, -⟩
  · go_wp2_with fail
    go_ret
    exact ⟨rfl, S.out.b⟩
  have HL2 := Lib.hid hli
  clear hli
  go_wp2_with fail
  (have hC := HC.out); clear HC; subst hC
  refine wp_hold fun C HC => ?_
  refine wp_seq ?_
  refine wp_region_lit ?_
  (refine wpList_load_row rfl 40 _ rfl (B) rfl _ _ _ _ (((S.out.pull (A := [_])).head)) Try.underlying40 rfl (by rw [hs1]; kernel_rfl) ?_)
  go_wp2_with fail
  refine ((wenc_any HV1.out a1 d1 k1 c1 rfl rfl w2 (HZ1.out.grow S.out.b) (Hd1.out.grow S.out.b) HL1.out).mono (fun e w' h => enc_one h)).mono ?_
  rintro e w3 ⟨hb3, xo, xc, rfl, hx⟩
  have S := Lib.hid (S.out.grow hb3)
  have Hx := Lib.hid hx
  clear hb3 hx
  obtain ⟨X, hX⟩ : ∃ X, X = bytesW a := ⟨_, rfl⟩
  obtain ⟨ca, hca⟩ : ∃ ca, ca = codeW a := ⟨_, rfl⟩
  rw [← hX] at Hx ⊢
  rw [← hca]
  have HX := Lib.hid hX
  have Hca := Lib.hid hca
  clear hX hca
  go_wp2_with fail
  (have hC := HC.out); clear HC; subst hC
  refine wp_hold fun C HC => ?_
  refine wp_seq ?_
  refine wp_region_lit ?_
  (refine wpList_load_row rfl 40 _ rfl (B + 1) rfl _ _ _ _ ((S.out.head)) Try.underlying40 rfl (by rw [hs2]; kernel_rfl) ?_)
  go_wp2_with fail
  refine ((wenc_any HV2.out a2 d2 k2 c2 rfl rfl w3 (HZ2.out.grow S.out.b) (Hd2.out.grow S.out.b) HL2.out).mono (fun e w' h => enc_one h)).mono ?_
  rintro e w4 ⟨hb4, yo, yc, rfl, hy⟩
  have S := Lib.hid (S.out.grow hb4)
  have Hx := Lib.hid (Hx.out.grow hb4)
  have Hy := Lib.hid hy
  clear hb4 hy
  obtain ⟨Y, hY⟩ : ∃ Y, Y = bytesW b := ⟨_, rfl⟩
  obtain ⟨cb, hcb⟩ : ∃ cb, cb = codeW b := ⟨_, rfl⟩
  rw [← hY] at Hy ⊢
  rw [← hcb]
  have HY := Lib.hid hY
  have Hcb := Lib.hid hcb
  clear hY hcb
  go_wp2_with fail
  (have hC := HC.out); clear HC; subst hC
  refine wp_hold fun C HC => ?_
  refine wp_seq ?_
  cases ha : mayW a with
  | false =>
    obtain rfl : ca = 1 := by rw [Hca.out]; unfold codeW; rw [ha]; rfl
    have Hma := Lib.hid ha
    clear ha
    cases hb : mayW b with
    | false =>
      obtain rfl : cb = 1 := by rw [Hcb.out]; unfold codeW; rw [hb]; rfl
      have Hmb := Lib.hid hb
      clear hb
      ((refine wp_hold fun C5 HC5 => ?_); (go_wp2_with fail); (have hC := HC5.out); clear HC5; subst hC; (refine wp_cond_true rfl ?_); (refine wp_seq ?_); (refine wp_region_lit ?_); ((refine list_hold 2 fun L HL => ?_); simp only [List.take_succ_cons, List.take_zero, List.cons_append, List.nil_append]; (go_wp2_with fail)); ((have hL := HL.out); clear HL; subst hL; simp only [List.drop_succ_cons, List.drop_zero]); (refine wpList_load_row rfl 40 _ rfl (B) rfl _ _ _ _ (((S.out.pull (A := [_])).head)) Try.underlying40 rfl (by rw [hs1]; kernel_rfl) ?_); ((refine list_hold 6 fun L HL => ?_); simp only [List.take_succ_cons, List.take_zero, List.cons_append, List.nil_append]; (go_wp2_with fail)); (refine (like_any HV1.out _).mono ?_); (rintro e w5 ⟨rfl, hbb⟩; (have S := Lib.hid (S.out.grow hbb)); clear hbb); (go_wp2_with fail); (refine (rmayW_any HV1.out a1 d1 k1 c1 rfl rfl w5 (HZ1.out.grow S.out.b) (Hd1.out.grow S.out.b).at_ (by have := HL1.out.mp.1; omega)).mono ?_); (rintro e w6 ⟨rfl, hbb⟩; (have S := Lib.hid (S.out.grow hbb)); clear hbb); (rw [docW_eq, Hma.out]); (go_wp2_with fail); ((have hL := HL.out); clear HL; subst hL; simp only [List.drop_succ_cons, List.drop_zero]); (refine wpList_load_rowG (by rfl) 40 _ rfl (B + 1) rfl _ _ _ _ ((S.out.head)) Try.underlying40 rfl (by rw [hs2]; kernel_rfl) ?_); (go_wp2_with fail); (refine (like_any HV2.out _).mono ?_); (rintro e w7 ⟨rfl, hbb⟩; (have S := Lib.hid (S.out.grow hbb)); clear hbb); (go_wp2_with fail); (refine (rmayW_any HV2.out a2 d2 k2 c2 rfl rfl w7 (HZ2.out.grow S.out.b) (Hd2.out.grow S.out.b).at_ (by have := HL2.out.mp.1; omega)).mono ?_); (rintro e w8 ⟨rfl, hbb⟩; (have S := Lib.hid (S.out.grow hbb)); clear hbb); (rw [docW_eq, Hmb.out]); (go_wp2_with fail); (refine (knownW_any _).mono ?_); (rintro e w9 ⟨rfl, hbb⟩; (have S := Lib.hid (S.out.grow hbb)); clear hbb); (go_wp2_with fail); go_ret; exact ⟨rfl, S.out.b⟩)
    | true =>
      obtain rfl : cb = 0 := by rw [Hcb.out]; unfold codeW; rw [hb]; rfl
      have Hmb := Lib.hid hb
      clear hb
      ((refine wp_hold fun C5 HC5 => ?_); (go_wp2_with fail); (have hC := HC5.out); clear HC5; subst hC; (refine wp_cond_true rfl ?_); (refine wp_seq ?_); (refine wp_region_lit ?_); ((refine list_hold 2 fun L HL => ?_); simp only [List.take_succ_cons, List.take_zero, List.cons_append, List.nil_append]; (go_wp2_with fail)); ((have hL := HL.out); clear HL; subst hL; simp only [List.drop_succ_cons, List.drop_zero]); (refine wpList_load_row rfl 40 _ rfl (B) rfl _ _ _ _ (((S.out.pull (A := [_])).head)) Try.underlying40 rfl (by rw [hs1]; kernel_rfl) ?_); ((refine list_hold 6 fun L HL => ?_); simp only [List.take_succ_cons, List.take_zero, List.cons_append, List.nil_append]; (go_wp2_with fail)); (refine (like_any HV1.out _).mono ?_); (rintro e w5 ⟨rfl, hbb⟩; (have S := Lib.hid (S.out.grow hbb)); clear hbb); (go_wp2_with fail); (refine (rmayW_any HV1.out a1 d1 k1 c1 rfl rfl w5 (HZ1.out.grow S.out.b) (Hd1.out.grow S.out.b).at_ (by have := HL1.out.mp.1; omega)).mono ?_); (rintro e w6 ⟨rfl, hbb⟩; (have S := Lib.hid (S.out.grow hbb)); clear hbb); (rw [docW_eq, Hma.out]); (go_wp2_with fail); ((have hL := HL.out); clear HL; subst hL; simp only [List.drop_succ_cons, List.drop_zero]); (refine wpList_load_rowG (by rfl) 40 _ rfl (B + 1) rfl _ _ _ _ ((S.out.head)) Try.underlying40 rfl (by rw [hs2]; kernel_rfl) ?_); (go_wp2_with fail); (refine (like_any HV2.out _).mono ?_); (rintro e w7 ⟨rfl, hbb⟩; (have S := Lib.hid (S.out.grow hbb)); clear hbb); (go_wp2_with fail); (refine (rmayW_any HV2.out a2 d2 k2 c2 rfl rfl w7 (HZ2.out.grow S.out.b) (Hd2.out.grow S.out.b).at_ (by have := HL2.out.mp.1; omega)).mono ?_); (rintro e w8 ⟨rfl, hbb⟩; (have S := Lib.hid (S.out.grow hbb)); clear hbb); (rw [docW_eq, Hmb.out]); (go_wp2_with fail); (refine (knownW_any _).mono ?_); (rintro e w9 ⟨rfl, hbb⟩; (have S := Lib.hid (S.out.grow hbb)); clear hbb); (go_wp2_with fail); go_ret; exact ⟨rfl, S.out.b⟩)
  | true =>
    obtain rfl : ca = 0 := by rw [Hca.out]; unfold codeW; rw [ha]; rfl
    have Hma := Lib.hid ha
    clear ha
    cases hb : mayW b with
    | false =>
      obtain rfl : cb = 1 := by rw [Hcb.out]; unfold codeW; rw [hb]; rfl
      have Hmb := Lib.hid hb
      clear hb
      ((refine wp_hold fun C5 HC5 => ?_); (go_wp2_with fail); (have hC := HC5.out); clear HC5; subst hC; (refine wp_cond_true rfl ?_); (refine wp_seq ?_); (refine wp_region_lit ?_); ((refine list_hold 2 fun L HL => ?_); simp only [List.take_succ_cons, List.take_zero, List.cons_append, List.nil_append]; (go_wp2_with fail)); ((have hL := HL.out); clear HL; subst hL; simp only [List.drop_succ_cons, List.drop_zero]); (refine wpList_load_row rfl 40 _ rfl (B) rfl _ _ _ _ (((S.out.pull (A := [_])).head)) Try.underlying40 rfl (by rw [hs1]; kernel_rfl) ?_); ((refine list_hold 6 fun L HL => ?_); simp only [List.take_succ_cons, List.take_zero, List.cons_append, List.nil_append]; (go_wp2_with fail)); (refine (like_any HV1.out _).mono ?_); (rintro e w5 ⟨rfl, hbb⟩; (have S := Lib.hid (S.out.grow hbb)); clear hbb); (go_wp2_with fail); (refine (rmayW_any HV1.out a1 d1 k1 c1 rfl rfl w5 (HZ1.out.grow S.out.b) (Hd1.out.grow S.out.b).at_ (by have := HL1.out.mp.1; omega)).mono ?_); (rintro e w6 ⟨rfl, hbb⟩; (have S := Lib.hid (S.out.grow hbb)); clear hbb); (rw [docW_eq, Hma.out]); (go_wp2_with fail); ((have hL := HL.out); clear HL; subst hL; simp only [List.drop_succ_cons, List.drop_zero]); (refine wpList_load_rowG (by rfl) 40 _ rfl (B + 1) rfl _ _ _ _ ((S.out.head)) Try.underlying40 rfl (by rw [hs2]; kernel_rfl) ?_); (go_wp2_with fail); (refine (like_any HV2.out _).mono ?_); (rintro e w7 ⟨rfl, hbb⟩; (have S := Lib.hid (S.out.grow hbb)); clear hbb); (go_wp2_with fail); (refine (rmayW_any HV2.out a2 d2 k2 c2 rfl rfl w7 (HZ2.out.grow S.out.b) (Hd2.out.grow S.out.b).at_ (by have := HL2.out.mp.1; omega)).mono ?_); (rintro e w8 ⟨rfl, hbb⟩; (have S := Lib.hid (S.out.grow hbb)); clear hbb); (rw [docW_eq, Hmb.out]); (go_wp2_with fail); (refine (knownW_any _).mono ?_); (rintro e w9 ⟨rfl, hbb⟩; (have S := Lib.hid (S.out.grow hbb)); clear hbb); (go_wp2_with fail); go_ret; exact ⟨rfl, S.out.b⟩)
    | true =>
      obtain rfl : cb = 0 := by rw [Hcb.out]; unfold codeW; rw [hb]; rfl
      have Hmb := Lib.hid hb
      clear hb
      go_wp2_with fail
      (have hC := HC.out); clear HC; subst hC
      obtain ⟨s, hsw⟩ : ∃ s, s = sameWd a b := ⟨_, rfl⟩
      have hq : (X == Y) = s := by
        rw [hsw, HX.out, HY.out]
        unfold bytesW
        rw [if_pos Hma.out, if_pos Hmb.out]
        exact apart_eq Hma.out Hmb.out HL1.out HL2.out
      have Hsa := Lib.hid (fun (w5 : World) (hbw : Below w.heap.size w w5) => sameW_any HV1.out HV2.out a1 a2 d1 d2 k1 k2 c1 c2 rfl rfl rfl rfl w5 (HZ1.out.grow hbw) (HZ2.out.grow hbw) (Hd1.out.grow hbw).at_ (Hd2.out.grow hbw).at_ (by have := HL1.out.mp.1; omega))
      rw [← hsw] at Hsa
      clear hsw
      obtain ⟨wd, hwd⟩ : ∃ wd, wd = w4.drew := ⟨_, rfl⟩
      have hdw : Below w4.heap.size w4 wd := by rw [hwd]; exact (Below.refl _ _).drew
      have S := Lib.hid (S.out.grow hdw)
      have Hx := Lib.hid (Hx.out.grow hdw)
      have Hy := Lib.hid (Hy.out.grow hdw)
      clear hdw
      have Hsu : Hid (∀ w', Below wd.heap.size wd w' → (fun W : World => W.heap[B]? = some (.cells V1 40 (0, 0)) ∧ W.heap[B + 1]? = some (.cells V2 40 (0, 0)) ∧ BAt W xo X ∧ BAt W yo Y) w') := Lib.hid fun w' hb => ⟨((S.out.grow hb).pull (A := [_])).head, (S.out.grow hb).head, (Hx.out.grow hb).at_, (Hy.out.grow hb).at_⟩
      have HB := Lib.hid (Below.refl wd.heap.size wd)
      have HC : Hid ((fun W : World => W.heap[B]? = some (.cells V1 40 (0, 0)) ∧ W.heap[B + 1]? = some (.cells V2 40 (0, 0)) ∧ BAt W xo X ∧ BAt W yo Y) wd) := Lib.hid (Hsu.out wd HB.out)
      refine wp_seq ?_
      refine wp_region_noPanic ?_
      refine wp_region_held (S := (fun W : World => W.heap[B]? = some (.cells V1 40 (0, 0)) ∧ W.heap[B + 1]? = some (.cells V2 40 (0, 0)) ∧ BAt W xo X ∧ BAt W yo Y)) (by kernel_rfl) ?_
      change wpAnyH _ _ _ _ _ _ _ _ (World.drew _)
      rw [← hwd]
      clear hwd
      (refine takeD (i := 0) (v := .slice xo X.length xc) 48 rfl rfl (by kernel_rfl) (by kernel_rfl) (by kernel_rfl) (fun _ _ _ h => h) (Or.inl ⟨by rfl, fun w hSw => (by obtain ⟨t0, t1, t2, t3⟩ := hSw; have u1 := conv_str t2 xc; have u2 := conv_str t3 yc; go_simp)⟩) HC.out ?_; (try simp only [Act.put, List.setIfInBounds_toArray, List.set_cons_zero, List.set_cons_succ]))
      (refine takeD (i := 1) (v := .string ⟨X.toArray⟩) 49 rfl rfl (by kernel_rfl) (by kernel_rfl) (by kernel_rfl) (fun _ _ _ h => h) (Or.inl ⟨by rfl, fun w hSw => (by obtain ⟨t0, t1, t2, t3⟩ := hSw; have u1 := conv_str t2 xc; have u2 := conv_str t3 yc; go_simp)⟩) HC.out ?_; (try simp only [Act.put, List.setIfInBounds_toArray, List.set_cons_zero, List.set_cons_succ]))
      (refine takeD (i := 2) (v := .slice yo Y.length yc) 50 rfl rfl (by kernel_rfl) (by kernel_rfl) (by kernel_rfl) (fun _ _ _ h => h) (Or.inl ⟨by rfl, fun w hSw => (by obtain ⟨t0, t1, t2, t3⟩ := hSw; have u1 := conv_str t2 xc; have u2 := conv_str t3 yc; go_simp)⟩) HC.out ?_; (try simp only [Act.put, List.setIfInBounds_toArray, List.set_cons_zero, List.set_cons_succ]))
      (refine takeD (i := 3) (v := .string ⟨Y.toArray⟩) 51 rfl rfl (by kernel_rfl) (by kernel_rfl) (by kernel_rfl) (fun _ _ _ h => h) (Or.inl ⟨by rfl, fun w hSw => (by obtain ⟨t0, t1, t2, t3⟩ := hSw; have u1 := conv_str t2 xc; have u2 := conv_str t3 yc; go_simp)⟩) HC.out ?_; (try simp only [Act.put, List.setIfInBounds_toArray, List.set_cons_zero, List.set_cons_succ]))
      (refine takeD (i := 4) (v := .bool s) 52 rfl rfl (by kernel_rfl) (by kernel_rfl) (by kernel_rfl) (fun _ _ _ h => h) (Or.inl ⟨by rfl, fun w hSw => (by obtain ⟨t0, t1, t2, t3⟩ := hSw; have u1 := conv_str t2 xc; have u2 := conv_str t3 yc; go_simp)⟩) HC.out ?_; (try simp only [Act.put, List.setIfInBounds_toArray, List.set_cons_zero, List.set_cons_succ]))
      (refine takeD (i := 5) (v := .agg V1) 53 rfl rfl (by kernel_rfl) (by kernel_rfl) (by kernel_rfl) (fun _ _ _ h => h) (Or.inl ⟨by rfl, fun w hSw => (by obtain ⟨t0, t1, t2, t3⟩ := hSw; exact exec_load_row 40 _ rfl B rfl _ V1 _ _ t0 Try.underlying40 rfl (by rw [hs1]; kernel_rfl))⟩) HC.out ?_; (try simp only [Act.put, List.setIfInBounds_toArray, List.set_cons_zero, List.set_cons_succ]))
      (refine takeD (i := 7) (v := .agg V2) 55 rfl rfl (by kernel_rfl) (by kernel_rfl) (by kernel_rfl) (fun _ _ _ h => h) (Or.inl ⟨by rfl, fun w hSw => (by obtain ⟨t0, t1, t2, t3⟩ := hSw; exact exec_load_row 40 _ rfl (B + 1) rfl _ V2 _ _ t1 Try.underlying40 rfl (by rw [hs2]; kernel_rfl))⟩) HC.out ?_; (try simp only [Act.put, List.setIfInBounds_toArray, List.set_cons_zero, List.set_cons_succ]))
      ((refine wpAnyH_all (rs := [6]) (by kernel_rfl) (by simp) (fun i' hi' => ?_); (obtain rfl : i' = 6 := by simpa using hi'); clear hi'; (refine wpOp_step rfl (fun K' hK' => ?_))); go_simp; (refine (like_any HV1.out wd).mono ?_); (rintro e w5 ⟨rfl, hbb⟩); (have S := Lib.hid (S.out.grow hbb)); (have HB := Lib.hid (HB.out.trans (hbb.mono HB.out.size))); clear hbb HC; (have HC : Hid ((fun W : World => W.heap[B]? = some (.cells V1 40 (0, 0)) ∧ W.heap[B + 1]? = some (.cells V2 40 (0, 0)) ∧ BAt W xo X ∧ BAt W yo Y) w5) := Lib.hid (Hsu.out w5 HB.out)); (refine hK' _ _ ⟨HC.out, ?_⟩); clear hK' K'; (try simp only [Act.put, List.setIfInBounds_toArray, List.set_cons_zero, List.set_cons_succ]))
      ((refine wpAnyH_all (rs := [8]) (by kernel_rfl) (by simp) (fun i' hi' => ?_); (obtain rfl : i' = 8 := by simpa using hi'); clear hi'; (refine wpOp_step rfl (fun K' hK' => ?_))); go_simp; (refine (like_any HV2.out w5).mono ?_); (rintro e w6 ⟨rfl, hbb⟩); (have S := Lib.hid (S.out.grow hbb)); (have HB := Lib.hid (HB.out.trans (hbb.mono HB.out.size))); clear hbb HC; (have HC : Hid ((fun W : World => W.heap[B]? = some (.cells V1 40 (0, 0)) ∧ W.heap[B + 1]? = some (.cells V2 40 (0, 0)) ∧ BAt W xo X ∧ BAt W yo Y) w6) := Lib.hid (Hsu.out w6 HB.out)); (refine hK' _ _ ⟨HC.out, ?_⟩); clear hK' K'; (try simp only [Act.put, List.setIfInBounds_toArray, List.set_cons_zero, List.set_cons_succ]))
      ((refine wpAnyH_all (rs := [9]) (by kernel_rfl) (by simp) (fun i' hi' => ?_); (obtain rfl : i' = 9 := by simpa using hi'); clear hi'; (refine wpOp_step rfl (fun K' hK' => ?_))); go_simp; (refine (Hsa.out w6 S.out.b).mono ?_); (rintro e w7 ⟨rfl, hbb⟩); (have S := Lib.hid (S.out.grow hbb)); (have HB := Lib.hid (HB.out.trans (hbb.mono HB.out.size))); clear hbb HC; (have HC : Hid ((fun W : World => W.heap[B]? = some (.cells V1 40 (0, 0)) ∧ W.heap[B + 1]? = some (.cells V2 40 (0, 0)) ∧ BAt W xo X ∧ BAt W yo Y) w7) := Lib.hid (Hsu.out w7 HB.out)); (refine hK' _ _ ⟨HC.out, ?_⟩); clear hK' K'; (try simp only [Act.put, List.setIfInBounds_toArray, List.set_cons_zero, List.set_cons_succ]))
      (refine takeD (i := 10) (v := .bool true) 58 rfl rfl (by kernel_rfl) (by kernel_rfl) (by kernel_rfl) (fun _ _ _ h => h) (Or.inl ⟨by rfl, fun w hSw => (by obtain ⟨t0, t1, t2, t3⟩ := hSw; have u1 := conv_str t2 xc; have u2 := conv_str t3 yc; go_simp)⟩) HC.out ?_; (try simp only [Act.put, List.setIfInBounds_toArray, List.set_cons_zero, List.set_cons_succ]))
      (refine takeD (i := 11) (v := .bool true) 59 rfl rfl (by kernel_rfl) (by kernel_rfl) (by kernel_rfl) (fun _ _ _ h => h) (Or.inl ⟨by rfl, fun w hSw => (by obtain ⟨t0, t1, t2, t3⟩ := hSw; have u1 := conv_str t2 xc; have u2 := conv_str t3 yc; go_simp)⟩) HC.out ?_; (try simp only [Act.put, List.setIfInBounds_toArray, List.set_cons_zero, List.set_cons_succ]))
      ((refine wpAnyH_all (rs := [12]) (by kernel_rfl) (by simp) (fun i' hi' => ?_); (obtain rfl : i' = 12 := by simpa using hi'); clear hi'; (refine wpOp_step rfl (fun K' hK' => ?_))); go_simp; (refine (knownW_any w7).mono ?_); (rintro e w8 ⟨rfl, hbb⟩); (have S := Lib.hid (S.out.grow hbb)); (have HB := Lib.hid (HB.out.trans (hbb.mono HB.out.size))); clear hbb HC; (have HC : Hid ((fun W : World => W.heap[B]? = some (.cells V1 40 (0, 0)) ∧ W.heap[B + 1]? = some (.cells V2 40 (0, 0)) ∧ BAt W xo X ∧ BAt W yo Y) w8) := Lib.hid (Hsu.out w8 HB.out)); (refine hK' _ _ ⟨HC.out, ?_⟩); clear hK' K'; (try simp only [Act.put, List.setIfInBounds_toArray, List.set_cons_zero, List.set_cons_succ]))
      (refine takeD (i := 13) (v := .bool true) 61 rfl rfl (by kernel_rfl) (by kernel_rfl) (by kernel_rfl) (fun _ _ _ h => h) (Or.inl ⟨by rfl, fun w hSw => (by obtain ⟨t0, t1, t2, t3⟩ := hSw; have u1 := conv_str t2 xc; have u2 := conv_str t3 yc; go_simp)⟩) HC.out ?_; (try simp only [Act.put, List.setIfInBounds_toArray, List.set_cons_zero, List.set_cons_succ]))
      (refine takeD (i := 14) (v := .bool true) 4 rfl rfl (by kernel_rfl) (by kernel_rfl) (by kernel_rfl) (fun _ _ _ h => h) (Or.inl ⟨by rfl, fun w hSw => (by obtain ⟨t0, t1, t2, t3⟩ := hSw; have u1 := conv_str t2 xc; have u2 := conv_str t3 yc; go_simp)⟩) HC.out ?_; (try simp only [Act.put, List.setIfInBounds_toArray, List.set_cons_zero, List.set_cons_succ]))
      refine wpAnyH_done (by kernel_rfl) ?_ _
      refine NoPanic.normal ?_
      go_wp2_with fail
      go_ret
      exact ⟨rfl, S.out.b⟩
namespace WireApartLift
open Go.ChangeShapes Go.WideShapes Go.ChangeAt Go.RowKit Go.Joins Go.Deep
open Go.ChangeMaps (open_string shut_string)

theorem own : ownKnob Try.prog.godebug = none := by kernel_rfl
theorem laidOut : laidOutB Try.prog = true := by kernel_rfl

set_option maxHeartbeats 1000000 in
set_option maxRecDepth 100000 in
theorem lifted (os : Os) (started : os.Started) (H : Type) (enc : TypeId × Value → H) :
    ReturnsInHanded {} Try.checked os 4 .any (Rows.wireApartSpec.pre6 enc Try.prog Try.f4 Rows.wireApartRow.domain false) (Rows.wireApartSpec.post enc Try.prog Try.f4 false true false false) := by
  refine returnsInHanded_of_change_sized (C := Try.checked) own started (by kernel_rfl) Try.func4
    (ChangeSpec.witness6 (enc := enc) (C := Try.checked) false ⟨#[], #[.agg #[.int .i64 0, .int .i64 0, .int .i64 0, .int .i64 0, .int .i64 0, .int .i64 0, .int .i64 0, .int .i64 0, .string ⟨#[]⟩, .string ⟨#[]⟩, .int .i64 0, .int .i64 0, .int .i64 0, .string ⟨#[]⟩, .string ⟨#[]⟩, .string ⟨#[]⟩, .string ⟨#[]⟩, .int .i64 0, .int .i64 0, .int .i64 0, .bool false, .int .i64 0, .int .i64 0, .int .i64 0, .int .i64 0, .int .i64 0, .int .i64 0, .int .i64 0, .int .i64 0, .int .i64 0, .slice none 0 0, .int .i64 0, .int .i64 0, .int .i64 0, .int .i64 0, .string ⟨#[]⟩, .slice none 0 0], .agg #[.int .i64 0, .int .i64 0, .int .i64 0, .int .i64 0, .int .i64 0, .int .i64 0, .int .i64 0, .int .i64 0, .string ⟨#[]⟩, .string ⟨#[]⟩, .int .i64 0, .int .i64 0, .int .i64 0, .string ⟨#[]⟩, .string ⟨#[]⟩, .string ⟨#[]⟩, .string ⟨#[]⟩, .int .i64 0, .int .i64 0, .int .i64 0, .bool false, .int .i64 0, .int .i64 0, .int .i64 0, .int .i64 0, .int .i64 0, .int .i64 0, .int .i64 0, .int .i64 0, .int .i64 0, .slice none 0 0, .int .i64 0, .int .i64 0, .int .i64 0, .int .i64 0, .string ⟨#[]⟩, .slice none 0 0]], []⟩ 8 (by kernel_rfl) (by kernel_rfl) (by kernel_rfl) (by kernel_rfl)) ?_
  intro W base args ds gs before hval0 hW hcnd hsz0 _
  have hval : ∀ (j : Nat) t v, Try.f4.params[j]? = some t → args[j]? = some v → Value.okWide Try.prog W .any base t v := hval0
  have hW' := hW
  obtain ⟨p, q, hA0, hV, rfl, hfz, hnd⟩ := hW
  have hA : DataW.TrodAll enc Try.prog W 0 (fun _ => true) true Try.f4.params.toList args.toList ds p := hA0
  have hsz : (DataW.weightsEach Try.prog (Try.f4.params.toList ++ Rows.wireApartSpec.plain.varTypes Try.prog) (ds ++ gs)).all (· ≤ reachBytes) = true := hsz0
  rw [Try.params4] at hA hval hsz
  obtain ⟨v0, vs0, d0, ds0, p0, q0, hargs, rfl, rfl, h0, r0⟩ := trodAll_cons hA
  obtain ⟨v1, vs1, d1, ds1, p1, q1, rfl, rfl, rfl, h1, r1⟩ := trodAll_cons r0
  obtain ⟨rfl, rfl, rfl⟩ := trodAll_nil r1
  obtain rfl : args = #[v0, v1] := by cases args; simp_all
  obtain ⟨rfl, rfl⟩ := trodVars_none hV
  have k0 := h0
  have lt0 : ∀ x ∈ p0, x.block < W.heap.size := by obtain ⟨m, hm⟩ := k0; exact DataW.trod_lt m _ _ _ hm
  have k1 := h1
  have lt1 : ∀ x ∈ p1, x.block < W.heap.size := by obtain ⟨m, hm⟩ := k1; exact DataW.trod_lt m _ _ _ hm
  have post : ∀ e W', e = Ending.returned (.bool true) → Below W.heap.size W W' → ∃ v, e = .returned v ∧ Rows.wireApartSpec.post enc Try.prog Try.f4 false true false false W #[v0, v1] v W' := by
    intro e W' he bel
    subst he
    exact ⟨_, rfl, _, _, _, [], _, [], hW', trodAll_mk1 (shut_bool Try.underlying4 _), (trodAll_cons_mk (Below.trod laidOut (by kernel_rfl) (of_decide_eq_true (by kernel_rfl)) k0 bel lt0) (trodAll_cons_mk (Below.trod laidOut (by kernel_rfl) (of_decide_eq_true (by kernel_rfl)) k1 bel lt1) trodAll_mk0)), rfl, bel.frame _, fun h => by cases h⟩
  clear hW' hcnd hfz hnd hA0 hA hval0
  obtain ⟨a, ao1, ka1, do1, ca1, rfl, hm1, hm2, hm3, hb1, hb2, hb3, hb4⟩ := open_word (hval 0 40 v0 rfl rfl) h0
  obtain ⟨b, ao2, ka2, do2, ca2, rfl, gm1, gm2, gm3, gb1, gb2, gb3, gb4⟩ := open_word (hval 1 40 v1 rfl rfl) h1
  exact (apart_walk ao1 ao2 do1 do2 ka1 ka2 ca1 ca2 rfl rfl W hm3 gm3 (by unfold maxLen at hm2; omega) (by unfold maxLen at gm2; omega) ⟨hb1, by unfold maxLen at hb2; omega, hb3, hb4⟩ ⟨gb1, by unfold maxLen at gb2; omega, gb3, gb4⟩).mono fun e W' ⟨he, bel⟩ => post e W' he bel

theorem over : Rows.wireApartRow.holds Try.pinned (OpenSpec.ofChange Rows.wireApartSpec) :=
  OpenClaim.holds_of_wide 4 Try.f4 rfl rfl rfl rfl rfl rfl rfl ⟨rfl, rfl, rfl, rfl, rfl⟩ rfl rfl rfl rfl rfl (by kernel_rfl) Try.func4 (by kernel_rfl)
    (of_decide_eq_true (by kernel_rfl)) (by unfold Func.isWrapper; first | (rw [if_pos (by decide +kernel)]; kernel_rfl) | (rw [if_neg (by decide +kernel)]; exact ⟨rfl, rfl⟩))
    (fun os started H enc _ => lifted os started H enc)
end WireApartLift

/-- The statement. -/
theorem wireApart_holds : Rows.WireApartSaid := WireApartLift.over
#print axioms wireApart_holds
end Go.Proofs.Ythlcmjgdilebeaa

