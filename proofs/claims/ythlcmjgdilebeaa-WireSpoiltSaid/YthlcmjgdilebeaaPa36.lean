/- Texts put together: WHv, WSa. -/
import Derived.Test.YthlcmjgdilebeaaPa12
import Derived.Test.YthlcmjgdilebeaaPa22
import Derived.Test.YthlcmjgdilebeaaPa35
import Derived.Laws.CopyOwn
namespace Go.Proofs.Ythlcmjgdilebeaa
set_option maxRecDepth 20000
open Go.RowKit

/-- A word in the other type. -/
theorem wboxD {w : World} {n : Nat} {d : Wd} {ms ds : Value} (h : w.heap[n]? = some (.cells (wdV d ms ds) 43 (0, 0))) : WBox w n d ms ds := wbox h
set_option maxHeartbeats 4000000 in
theorem like_any {d : Wd} {V : Array Value} {a1 a2 : Option Addr} {n1 k1 n2 k2 : Nat} (hV : V = wdV d (.slice a1 n1 k1) (.slice a2 n2 k2)) (w : World) : Calls Try.prog 8 #[.agg V] w fun e w' => e = .returned (.agg V) ∧ Below w.heap.size w w' := by
  have HV := Lib.hid hV
  have Hone : Hid (V.all (·.oneCell') = true) := Lib.hid (by rw [hV]; simp [wdV, Value.oneCell'])
  have Hs : Hid (V.size = 37) := Lib.hid (by rw [hV]; rfl)
  clear hV
  go_enter Try.func8, Try.ntmps8
  refine wp_holdQ fun R HR => ?_
  refine wp_hold fun C HC => ?_
  go_wp2_with fail
  (refine wp_name fun wa hwa => ?_; have wa_s0 : w.heap.size < wa.heap.size := szg hwa; have wa_s1 : w.heap.size + 1 < wa.heap.size := szg hwa; have wa_b : Below w.heap.size w wa := (by rw [hwa]; exact bg); have wa_h : wa.heap[w.heap.size + 1]? = some (.cells #[.int .i64 0, .int .i64 0, .int .i64 0, .int .i64 0, .int .i64 0, .int .i64 0, .int .i64 0, .int .i64 0, .string ⟨#[]⟩, .string ⟨#[]⟩, .int .i64 0, .int .i64 0, .int .i64 0, .string ⟨#[]⟩, .string ⟨#[]⟩, .string ⟨#[]⟩, .string ⟨#[]⟩, .int .i64 0, .int .i64 0, .int .i64 0, .bool false, .int .i64 0, .int .i64 0, .int .i64 0, .int .i64 0, .int .i64 0, .int .i64 0, .int .i64 0, .int .i64 0, .int .i64 0, .slice none 0 0, .int .i64 0, .int .i64 0, .int .i64 0, .int .i64 0, .string ⟨#[]⟩, .slice none 0 0] 43 (0, 0)) := (by rw [hwa]; exact heap_alloc2_new w _ _); have wa_bh : wa.heap[w.heap.size]? = some (.cells V 40 (0, 0)) := (by rw [hwa]; exact heap_alloc2_old w _ _); clear hwa)
  obtain ⟨c0, c1, c2, c3, c4, c5, c6, c7, c8, c9, c10, c11, c12, c13, c14, c15, c16, c17, c18, c19, c20, c21, c22, c23, c24, c25, c26, c27, c28, c29, c30, c31, c32, c33, c34, c35, c36⟩ := wbox (show wa.heap[w.heap.size]? = some (.cells (wdV d (.slice a1 n1 k1) (.slice a2 n2 k2)) 40 (0, 0)) from (by rw [← HV.out]; exact wa_bh))
  (have hC := HC.out); clear HC; subst hC
  refine wp_seq ?_
  refine wp_region_lit ?_
  refine list_hold 28 fun L HL => ?_
  simp only [List.take_succ_cons, List.take_zero, List.cons_append, List.nil_append]
  go_wp2_with fail
  (have hL := HL.out); clear HL; subst hL
  simp only [List.drop_succ_cons, List.drop_zero]
  refine list_hold 1 fun L HL => ?_
  simp only [List.take_succ_cons, List.take_zero, List.cons_append, List.nil_append]
  go_wp2_with fail
  (have hL := HL.out); clear HL; subst hL
  simp only [List.drop_succ_cons, List.drop_zero]
  refine wpList_store_row rfl 43 _ _ rfl (w.heap.size + 1) V rfl (by rw [HV.out]; rfl) 43 _ wa_h (by rw [Hs.out]; kernel_rfl) (by rw [Hs.out]; rfl) Hone.out ?_
  (have hR := HR.out); clear HR; subst hR
  go_wp2_with fail
  refine bodyPost_ret (results_cell_row rfl _ _ (w.heap.size + 1) 43 _ (0, 0) _ rfl (setRow_heap _ _ _ _ _ _ wa_h) Try.underlying43 rfl (by rw [Hs.out]; kernel_rfl)) rfl ⟨rfl, below_setRow wa_b (by omega) _⟩
def WHvPost (w : World) (d : Wd) (e : Ending) (w' : World) : Prop := Below w.heap.size w w' ∧ (e = .returned (.bool true) ∨ (e = .returned (.bool false) ∧ Light d ∧ d.data.length ≤ 2000))
set_option maxHeartbeats 4000000 in
theorem heavyW_any {d : Wd} {ms ds : Value} {V : Array Value} (hV : V = wdV d ms ds) (ao dl : Option Addr) (zc dc : Nat) (hms : ms = .slice ao d.mp.zs.length zc) (hds : ds = .slice dl d.data.length dc) (w : World) (hz : O.ZsAt w ao d.mp.zs) (hm : d.mp.zs.length ≤ 9223372036854775807) (hd : d.data.length ≤ 9223372036854775807) : Calls Try.prog 6 #[.agg V] w (WHvPost w d) := by
  have HV := Lib.hid hV
  have HZ := Lib.hid hz
  clear hV hz
  go_enter Try.func6, Try.ntmps6
  ((refine wp_hold fun C HC => ?_); (go_wp2_with fail); (refine wp_name fun wa hwa => ?_; have wa_s0 : w.heap.size < wa.heap.size := szg hwa; have wa_b : Below w.heap.size w wa := (by rw [hwa]; exact bg); have wa_bh : wa.heap[w.heap.size]? = some (.cells V 40 (0, 0)) := (by rw [hwa]; exact heap_alloc_new w _); clear hwa); (obtain ⟨c0, c1, c2, c3, c4, c5, c6, c7, c8, c9, c10, c11, c12, c13, c14, c15, c16, c17, c18, c19, c20, c21, c22, c23, c24, c25, c26, c27, c28, c29, c30, c31, c32, c33, c34, c35, c36⟩ := wbox (show wa.heap[w.heap.size]? = some (.cells (wdV d ms ds) 40 (0, 0)) from (by rw [← HV.out]; exact wa_bh))); (have hC := HC.out); clear HC; subst hC)
  subst hms hds
  clear c0 c1 c2 c3 c4 c5 c6 c7 c10 c11 c12 c17 c18 c19 c20 c21 c22 c23 c24 c25 c26 c27 c31 c32 c33 c34
  go_wp2_with fail
  refine (O.heavyMap_any ao zc d.mp.zs d.mp.ver d.mp.next wa (HZ.out.grow wa_b) hm).mono ?_
  rintro e w1 ⟨hb1, he⟩
  obtain ⟨w1_hc, w1_hf⟩ := bcell hb1
  have w1_z := hb1.size
  have w1_b := wa_b.trans (hb1.mono wa_b.size)
  clear hb1
  rcases he with rfl | ⟨rfl, hlt⟩
  · ((go_wp2_with fail); go_ret; exact ⟨w1_b, .inl rfl⟩)
  have Hlt := Lib.hid hlt
  clear hlt
  rcases Bool.eq_false_or_eq_true (decide ((2000 : Int) < d.data.length)) with t0 | t0
  · ((go_wp2_with fail); go_ret; exact ⟨w1_b, .inl rfl⟩)
  rcases Bool.eq_false_or_eq_true (decide ((60 : Int) < d.sf.size)) with t1 | t1
  · ((go_wp2_with fail); go_ret; exact ⟨w1_b, .inl rfl⟩)
  rcases Bool.eq_false_or_eq_true (decide ((60 : Int) < d.st.size)) with t2 | t2
  · ((go_wp2_with fail); go_ret; exact ⟨w1_b, .inl rfl⟩)
  rcases Bool.eq_false_or_eq_true (decide ((60 : Int) < d.ch.key.size)) with t3 | t3
  · ((go_wp2_with fail); go_ret; exact ⟨w1_b, .inl rfl⟩)
  rcases Bool.eq_false_or_eq_true (decide ((60 : Int) < d.op.key.size)) with t4 | t4
  · ((go_wp2_with fail); go_ret; exact ⟨w1_b, .inl rfl⟩)
  rcases Bool.eq_false_or_eq_true (decide ((60 : Int) < d.op.who.size)) with t5 | t5
  · ((go_wp2_with fail); go_ret; exact ⟨w1_b, .inl rfl⟩)
  rcases Bool.eq_false_or_eq_true (decide ((60 : Int) < d.op.tkey.size)) with t6 | t6
  · ((go_wp2_with fail); go_ret; exact ⟨w1_b, .inl rfl⟩)
  rcases Bool.eq_false_or_eq_true (decide ((60 : Int) < d.op.twho.size)) with t7 | t7
  · ((go_wp2_with fail); go_ret; exact ⟨w1_b, .inl rfl⟩)
  have hL : Hid (Light d ∧ d.data.length ≤ 2000) := by
    rw [decide_eq_false_iff_not] at t0 t1 t2 t3 t4 t5 t6 t7
    exact Lib.hid ⟨⟨Hlt.out, by omega, by omega, by omega⟩, by omega⟩
  go_wp2_with fail
  go_ret
  exact ⟨w1_b, .inr ⟨rfl, hL.out⟩⟩
/-- A pull. -/
def kdW : Wd := ⟨2, 0, 0, 3, 0, 0, 0, 0, e0, e0, rq0, zRp, mp0, ch0, []⟩
theorem kdW_may : mayW kdW = true := by decide +kernel
theorem kdW_len : (encW kdW).length = 23 := by decide +kernel
theorem kdW_light : Light kdW := ⟨⟨by decide, fun z hz => by cases hz⟩, by decide, by decide, by decide⟩
theorem sl_nil (w : World) : F.Sl w none 0 [] := ⟨Nat.le_refl _, by decide, fun _ => ⟨rfl, rfl⟩, fun h => absurd h (by simp)⟩
set_option maxHeartbeats 4000000 in
theorem knownW_any (w : World) : Calls Try.prog 11 #[] w fun e w' => e = .returned (.bool true) ∧ Below w.heap.size w w' := by
  have Hen := Lib.hid (fun w => wenc_any (V := wdV kdW (.slice none 0 0) (.slice none 0 0)) rfl none none 0 0 rfl rfl w (fun h => absurd h (by decide)) (sl_nil w) kdW_light)
  have hv : wdV kdW (.slice none 0 0) (.slice none 0 0) = #[.int .i64 2, .int .i64 0, .int .i64 0, .int .i64 3, .int .i64 0, .int .i64 0, .int .i64 0, .int .i64 0, .string ⟨#[]⟩, .string ⟨#[]⟩, .int .i64 0, .int .i64 0, .int .i64 0, .string ⟨#[]⟩, .string ⟨#[]⟩, .string ⟨#[]⟩, .string ⟨#[]⟩, .int .i64 0, .int .i64 0, .int .i64 0, .bool false, .int .i64 0, .int .i64 0, .int .i64 0, .int .i64 0, .int .i64 0, .int .i64 0, .int .i64 0, .int .i64 0, .int .i64 0, .slice none 0 0, .int .i64 0, .int .i64 0, .int .i64 0, .int .i64 0, .string ⟨#[]⟩, .slice none 0 0] := rfl
  rw [hv] at Hen
  clear hv
  go_enter Try.func11, Try.ntmps11
  go_wp2_with fail
  refine (Hen.out w).mono ?_
  rintro e w1 ⟨hb1, h⟩
  rw [if_pos kdW_may] at h
  obtain ⟨ao, cap, rfl, -⟩ := h
  rw [kdW_len]
  go_wp2_with fail
  go_ret
  exact ⟨rfl, hb1⟩
end Go.Proofs.Ythlcmjgdilebeaa

namespace Go.Proofs.Ythlcmjgdilebeaa.O
set_option maxRecDepth 20000
open Go.RowKit

set_option maxHeartbeats 4000000 in
/-- Two maps. -/
theorem rsame_any (a1 a2 : Option Addr) (k1 k2 : Nat) (x y : Mp) (w : World) (h1 : ZsAt w a1 x.zs) (h2 : ZsAt w a2 y.zs) (hm : x.zs.length ≤ 100000) :
    Calls Try.prog 38 #[.agg #[.int .i64 x.ver, .int .i64 x.next, .slice a1 x.zs.length k1], .agg #[.int .i64 y.ver, .int .i64 y.next, .slice a2 y.zs.length k2]] w fun e w' => e = .returned (.bool (sameM x y)) ∧ Below w.heap.size w w' := by
  obtain ⟨q, hq⟩ : ∃ q, q = sameM x y := ⟨_, rfl⟩
  rw [← hq]
  have Hq := Lib.hid hq
  clear hq
  by_cases t1 : x.ver = y.ver
  case neg =>
    have t1' : (x.ver != y.ver) = true := by rw [bne_iff_ne]; exact t1
    obtain rfl : q = false := by rw [Hq.out]; unfold sameM; rw [decide_eq_false_iff_not]; rintro ⟨h, -⟩; exact t1 h
    go_enter Try.func38, Try.ntmps38
    go_wp2_with fail
    go_ret
    exact ⟨rfl, bg⟩
  have t1' : (x.ver != y.ver) = false := by rw [t1]; simp
  by_cases t2 : x.next = y.next
  case neg =>
    have t2' : (x.next != y.next) = true := by rw [bne_iff_ne]; exact t2
    obtain rfl : q = false := by rw [Hq.out]; unfold sameM; rw [decide_eq_false_iff_not]; rintro ⟨-, h, -⟩; exact t2 h
    go_enter Try.func38, Try.ntmps38
    go_wp2_with fail
    go_ret
    exact ⟨rfl, bg⟩
  have t2' : (x.next != y.next) = false := by rw [t2]; simp
  by_cases t3 : x.zs.length = y.zs.length
  case neg =>
    have t3' : ((x.zs.length : Int) != y.zs.length) = true := by rw [bne_iff_ne]; omega
    obtain rfl : q = false := by rw [Hq.out]; unfold sameM; rw [decide_eq_false_iff_not]; rintro ⟨-, -, h⟩; exact t3 (by rw [h])
    go_enter Try.func38, Try.ntmps38
    go_wp2_with fail
    go_ret
    exact ⟨rfl, bg⟩
  have Hq : Hid (q = decide (x.zs = y.zs)) := Lib.hid (by rw [Hq.out]; unfold sameM; congr 1; simp [t1, t2])
  obtain ⟨v1, n1, l⟩ := x
  obtain ⟨v2, n2, m⟩ := y
  dsimp only at t1 t2 t3 t1' t2' h1 h2 hm Hq ⊢
  subst t1 t2
  have H1 := Lib.hid h1
  have H2 := Lib.hid h2
  rw [← t3]
  obtain ⟨n, hn⟩ : ∃ n, n = l.length := ⟨_, rfl⟩
  rw [← hn] at hm t3 ⊢
  have Hn := Lib.hid hn
  have Hm := Lib.hid t3
  clear h1 h2 hn t3
  have e1 : ((n : Int) != n) = false := by simp
  go_enter Try.func38, Try.ntmps38
  go_wp2_with fail
  (refine wp_name fun wa hwa => ?_; have wa_s0 : w.heap.size < wa.heap.size := szg hwa; have wa_s1 : w.heap.size + 1 < wa.heap.size := szg hwa; have wa_c0 : wa.cell? ⟨w.heap.size, 2, none⟩ = some (.slice a1 n k1) := cg hwa; have wa_c1 : wa.cell? ⟨w.heap.size + 1, 2, none⟩ = some (.slice a2 n k2) := cg hwa; have wa_b : Below w.heap.size w wa := (by rw [hwa]; exact bg); clear hwa)
  have wa_le := wa_b.size
  go_loopw [5] (fun s wr => ∃ i : Nat, s = .int .i64 i ∧ i ≤ n ∧ Hid (∀ j (hj : j < l.length) (hj' : j < m.length), j < i → l[j] = m[j]) ∧ Hid (Below wa.heap.size wa wr)) (fun s _ => n - (intOf s).toNat)
  case atStart => exact ⟨0, rfl, by omega, Lib.hid (fun j _ _ h => by omega), Lib.hid (Below.refl _ _)⟩
  case round =>
    obtain ⟨i, rfl, hi, Hs, Hb⟩ := hrel
    have wr_b := wa_b.trans (Hb.out.mono wa_le)
    have hsr := Hb.out.size
    obtain ⟨xc, xf⟩ := bcell Hb.out
    have r0 := (xc _ _ wa_s0).trans wa_c0
    have r1 := (xc _ _ wa_s1).trans wa_c1
    have rs2 : w.heap.size < wr.heap.size := by omega
    have rs3 : w.heap.size + 1 < wr.heap.size := by omega
    clear xc xf
    by_cases hlt : i < n
    · have hl1 : i < l.length := by have := Hn.out; omega
      have hl2 : i < m.length := by have := Hm.out; omega
      obtain ⟨g1, o1, rfl, hz1⟩ := H1.out (by omega)
      obtain ⟨g2, o2, rfl, hz2⟩ := H2.out (by omega)
      have u1 : g1 < wr.heap.size := Nat.lt_of_lt_of_le hz1.lt wr_b.size
      have u2 : g2 < wr.heap.size := Nat.lt_of_lt_of_le hz2.lt wr_b.size
      obtain ⟨z, hz⟩ : ∃ z, z = l[i] := ⟨_, rfl⟩
      obtain ⟨y, hy⟩ : ∃ y, y = m[i] := ⟨_, rfl⟩
      obtain ⟨d0, d1, d2, d3, d4, d5, d6, d7, d8⟩ := (hz1.grow wr_b).nine i hl1 z hz
      obtain ⟨f0, f1, f2, f3, f4, f5, f6, f7, f8⟩ := (hz2.grow wr_b).nine i hl2 y hy
      obtain ⟨r, hr⟩ : ∃ r, r = decide (z = y) := ⟨_, rfl⟩
      have heq := fun w => eql_zn z y w r (by rw [eqZ_iff, hr])
      have Hr : Hid (r = true → l[i] = m[i]) := Lib.hid fun h => by rw [← hz, ← hy]; rw [h] at hr; exact of_decide_eq_true hr.symm
      have Hf : Hid (r = false → q = false) := Lib.hid fun h => by
        rw [Hq.out, decide_eq_false_iff_not]
        rintro rfl
        rw [h, hz, hy] at hr
        exact absurd rfl (of_decide_eq_false hr.symm)
      obtain ⟨wo, rfl⟩ : ∃ wo : World, wo = wr := ⟨_, rfl⟩
      clear hz hy hz1 hz2 hr
      cases r with
      | true =>
        go_wp2_with fail
        (refine wp_region_gr (by kernel_rfl) (by kernel_rfl) ?_; (repeat (go_big_quiet_step (fail))); refine wpQuiet_nil ?_; intro _ hw'; obtain ⟨g0, hw''⟩ := hw'; subst hw'')
        go_wp2_with fail
        go_roundw
        case rel => exact ⟨i + 1, by go_num, by omega, Lib.hid (fun j hj hj' hji => by
          by_cases e : j = i
          · subst e; exact Hr.out trivial
          · exact Hs.out j hj hj' (by omega)), Lib.hid (Hb.out.trans ((gr_below wo g0).mono (by omega)))⟩
        case measure => simp [intOf]; omega
      | false =>
        have hqf := Hf.out rfl
        subst hqf
        go_wp2_with fail
        (refine wp_region_gr (by kernel_rfl) (by kernel_rfl) ?_; (repeat (go_big_quiet_step (fail))); refine wpQuiet_nil ?_; intro _ hw'; obtain ⟨g0, hw''⟩ := hw'; subst hw'')
        go_wp2_with fail
        go_ret
        exact ⟨rfl, wr_b.trans ((gr_below wo g0).mono wr_b.size)⟩
    · have hqt : q = true := by
        rw [Hq.out, decide_eq_true_eq]
        refine List.ext_getElem (by rw [← Hn.out, Hm.out]) fun j hj hj' => Hs.out j hj hj' ?_
        have := Hn.out
        omega
      subst hqt
      go_wp2_with fail
      go_ret
      exact ⟨rfl, wr_b⟩
end Go.Proofs.Ythlcmjgdilebeaa.O
namespace Go.Proofs.Ythlcmjgdilebeaa
set_option maxRecDepth 20000
open Go.RowKit
/-- Two words. -/
def sameWd (a b : Wd) : Bool := (a.kind == b.kind) && (a.zone == b.zone) && (a.epoch == b.epoch) && (a.index == b.index) && (a.size == b.size) && (a.off == b.off) && (a.host == b.host) && (a.err == b.err) && decide (a.sf.toList = b.sf.toList ∧ a.st.toList = b.st.toList) && eqR a.op b.op && eqRp a.rep b.rep && sameM a.mp b.mp && eqCh a.ch b.ch && decide (a.data = b.data)
theorem sameWd_eq (a b : Wd) : sameWd a b = (decide (a.kind = b.kind) && eqPl a.pl b.pl && sameM a.mp b.mp && decide (a.data = b.data)) := by
  unfold sameWd eqPl Wd.pl
  rw [Bool.eq_iff_iff]
  simp only [Bool.and_eq_true, decide_eq_true_eq, beq_iff_eq]
  grind
theorem eql_span (f t f' t' : ByteArray) (w : World) (r : Bool) (hr : decide (f.toList = f'.toList ∧ t.toList = t'.toList) = r) : (Op.equalIn 10000 24 (.agg #[.string f, .string t]) (.agg #[.string f', .string t'])).run Try.prog w = .ok r w := by
  subst hr
  go_simp
  by_cases h1 : f.toList = f'.toList
  · by_cases h2 : t.toList = t'.toList
    · simp [h1, h2]
    · simp [h1, h2]
  · simp [h1]
set_option maxHeartbeats 8000000 in
theorem sameW_any {a b : Wd} {ms ds ms2 ds2 : Value} {V V2 : Array Value} (hV : V = wdV a ms ds) (hV2 : V2 = wdV b ms2 ds2) (a1 a2 d1 d2 : Option Addr) (k1 k2 c1 c2 : Nat) (hms : ms = .slice a1 a.mp.zs.length k1) (hms2 : ms2 = .slice a2 b.mp.zs.length k2) (hds : ds = .slice d1 a.data.length c1) (hds2 : ds2 = .slice d2 b.data.length c2) (w : World)
    (hz1 : O.ZsAt w a1 a.mp.zs) (hz2 : O.ZsAt w a2 b.mp.zs) (hb1 : BAt w d1 a.data) (hb2 : BAt w d2 b.data) (hm : a.mp.zs.length ≤ 100000) :
    Calls Try.prog 12 #[.agg V, .agg V2] w fun e w' => e = .returned (.bool (sameWd a b)) ∧ Below w.heap.size w w' := by
  have HV := Lib.hid hV
  have HV2 := Lib.hid hV2
  have Hz1 := Lib.hid hz1
  have Hz2 := Lib.hid hz2
  have Hb1 := Lib.hid hb1
  have Hb2 := Lib.hid hb2
  have Hms := Lib.hid hms
  have Hms2 := Lib.hid hms2
  have Hds := Lib.hid hds
  have Hds2 := Lib.hid hds2
  obtain ⟨r, hr⟩ : ∃ r, r = sameWd a b := ⟨_, rfl⟩
  rw [← hr]
  unfold sameWd at hr
  obtain ⟨q0, hq0⟩ : ∃ q, (a.kind == b.kind) = q := ⟨_, rfl⟩
  obtain ⟨q1, hq1⟩ : ∃ q, (a.zone == b.zone) = q := ⟨_, rfl⟩
  obtain ⟨q2, hq2⟩ : ∃ q, (a.epoch == b.epoch) = q := ⟨_, rfl⟩
  obtain ⟨q3, hq3⟩ : ∃ q, (a.index == b.index) = q := ⟨_, rfl⟩
  obtain ⟨q4, hq4⟩ : ∃ q, (a.size == b.size) = q := ⟨_, rfl⟩
  obtain ⟨q5, hq5⟩ : ∃ q, (a.off == b.off) = q := ⟨_, rfl⟩
  obtain ⟨q6, hq6⟩ : ∃ q, (a.host == b.host) = q := ⟨_, rfl⟩
  obtain ⟨q7, hq7⟩ : ∃ q, (a.err == b.err) = q := ⟨_, rfl⟩
  obtain ⟨q8, hq8⟩ : ∃ q, decide (a.sf.toList = b.sf.toList ∧ a.st.toList = b.st.toList) = q := ⟨_, rfl⟩
  obtain ⟨q9, hq9⟩ : ∃ q, eqR a.op b.op = q := ⟨_, rfl⟩
  obtain ⟨q10, hq10⟩ : ∃ q, eqRp a.rep b.rep = q := ⟨_, rfl⟩
  obtain ⟨q11, hq11⟩ : ∃ q, sameM a.mp b.mp = q := ⟨_, rfl⟩
  obtain ⟨q12, hq12⟩ : ∃ q, eqCh a.ch b.ch = q := ⟨_, rfl⟩
  obtain ⟨q13, hq13⟩ : ∃ q, decide (a.data = b.data) = q := ⟨_, rfl⟩
  rw [hq0, hq1, hq2, hq3, hq4, hq5, hq6, hq7, hq8, hq9, hq10, hq11, hq12, hq13] at hr
  have Hr := Lib.hid hr
  have Heq8 := Lib.hid (fun w => eql_span a.sf a.st b.sf b.st w q8 hq8)
  have Heq9 := Lib.hid (fun w => eql_api.Op a.op b.op w q9 hq9)
  have Heq10 := Lib.hid (fun w => eql_rep a.rep b.rep w q10 hq10)
  have Heq12 := Lib.hid (fun w => eql_ch a.ch b.ch w q12 (by rw [← hq12]; rfl))
  have Heq13 : Hid ((a.data == b.data) = q13) := Lib.hid (by rw [← hq13, Bool.eq_iff_iff, beq_iff_eq, decide_eq_true_eq])
  have Hq11 := Lib.hid hq11
  have Hq0 := Lib.hid hq0
  have Hq1 := Lib.hid hq1
  have Hq2 := Lib.hid hq2
  have Hq3 := Lib.hid hq3
  have Hq4 := Lib.hid hq4
  have Hq5 := Lib.hid hq5
  have Hq6 := Lib.hid hq6
  have Hq7 := Lib.hid hq7
  clear hr hV hV2 hz1 hz2 hb1 hb2 hms hms2 hds hds2 hq0 hq1 hq2 hq3 hq4 hq5 hq6 hq7 hq8 hq9 hq10 hq11 hq12 hq13
  go_enter Try.func12, Try.ntmps12
  refine wp_hold fun C HC => ?_
  go_wp2_with fail
  refine wp_name fun wa hwa => ?_
  obtain ⟨B, hB⟩ : ∃ B, B = w.heap.size := ⟨_, rfl⟩
  have S : Hid (St w wa [thObj (B + 1) (.cells V2 43 (0, 0)), thObj B (.cells V 43 (0, 0))]) := by
    rw [hwa]
    exact Lib.hid (((St.start w).objN _ B hB).objN _ (B + 1) (by rw [hB]; simp))
  rw [← hB]
  clear hwa hB
  have Wa : Hid (WBox wa B a ms ds) := Lib.hid (wboxD (by rw [← HV.out]; exact (S.out.pull (A := [_])).head))
  have Wb : Hid (WBox wa (B + 1) b ms2 ds2) := Lib.hid (wboxD (by rw [← HV2.out]; exact S.out.head))
  (have hC := HC.out); clear HC; subst hC
  refine wp_seq ?_
  refine wp_region_lit ?_
  refine list_hold 6 fun L HL => ?_
  simp only [List.append_eq, List.take_succ_cons, List.take_zero, List.cons_append, List.nil_append]
  have x0 := Wa.out.c0
  have y0 := Wb.out.c0
  have hq := Hq0.out
  go_wp2_with fail
  clear x0 y0 hq
  (have hL := HL.out); clear HL; subst hL
  simp only [List.append_eq, List.cons_append, List.nil_append, List.drop_succ_cons, List.drop_zero]
  obtain rfl | rfl := Bool.eq_false_or_eq_true q0 |>.symm
  · ((go_wp2_with fail); go_ret; exact ⟨by rw [Hr.out]; rfl, S.out.b⟩)
  refine list_hold 7 fun L HL => ?_
  simp only [List.take_succ_cons, List.take_zero, List.cons_append, List.nil_append]
  have x1 := Wa.out.c1
  have y1 := Wb.out.c1
  have hq := Hq1.out
  go_wp2_with fail
  clear x1 y1 hq
  ((have hL := HL.out); clear HL; subst hL; simp only [List.drop_succ_cons, List.drop_zero])
  obtain rfl | rfl := Bool.eq_false_or_eq_true q1 |>.symm
  · ((go_wp2_with fail); go_ret; exact ⟨by rw [Hr.out]; rfl, S.out.b⟩)
  refine list_hold 7 fun L HL => ?_
  simp only [List.take_succ_cons, List.take_zero, List.cons_append, List.nil_append]
  have x2 := Wa.out.c2
  have y2 := Wb.out.c2
  have hq := Hq2.out
  go_wp2_with fail
  clear x2 y2 hq
  ((have hL := HL.out); clear HL; subst hL; simp only [List.drop_succ_cons, List.drop_zero])
  obtain rfl | rfl := Bool.eq_false_or_eq_true q2 |>.symm
  · ((go_wp2_with fail); go_ret; exact ⟨by rw [Hr.out]; rfl, S.out.b⟩)
  refine list_hold 7 fun L HL => ?_
  simp only [List.take_succ_cons, List.take_zero, List.cons_append, List.nil_append]
  have x3 := Wa.out.c3
  have y3 := Wb.out.c3
  have hq := Hq3.out
  go_wp2_with fail
  clear x3 y3 hq
  ((have hL := HL.out); clear HL; subst hL; simp only [List.drop_succ_cons, List.drop_zero])
  obtain rfl | rfl := Bool.eq_false_or_eq_true q3 |>.symm
  · ((go_wp2_with fail); go_ret; exact ⟨by rw [Hr.out]; rfl, S.out.b⟩)
  refine list_hold 7 fun L HL => ?_
  simp only [List.take_succ_cons, List.take_zero, List.cons_append, List.nil_append]
  have x4 := Wa.out.c4
  have y4 := Wb.out.c4
  have hq := Hq4.out
  go_wp2_with fail
  clear x4 y4 hq
  ((have hL := HL.out); clear HL; subst hL; simp only [List.drop_succ_cons, List.drop_zero])
  obtain rfl | rfl := Bool.eq_false_or_eq_true q4 |>.symm
  · ((go_wp2_with fail); go_ret; exact ⟨by rw [Hr.out]; rfl, S.out.b⟩)
  refine list_hold 7 fun L HL => ?_
  simp only [List.take_succ_cons, List.take_zero, List.cons_append, List.nil_append]
  have x5 := Wa.out.c5
  have y5 := Wb.out.c5
  have hq := Hq5.out
  go_wp2_with fail
  clear x5 y5 hq
  ((have hL := HL.out); clear HL; subst hL; simp only [List.drop_succ_cons, List.drop_zero])
  obtain rfl | rfl := Bool.eq_false_or_eq_true q5 |>.symm
  · ((go_wp2_with fail); go_ret; exact ⟨by rw [Hr.out]; rfl, S.out.b⟩)
  refine list_hold 7 fun L HL => ?_
  simp only [List.take_succ_cons, List.take_zero, List.cons_append, List.nil_append]
  have x6 := Wa.out.c6
  have y6 := Wb.out.c6
  have hq := Hq6.out
  go_wp2_with fail
  clear x6 y6 hq
  ((have hL := HL.out); clear HL; subst hL; simp only [List.drop_succ_cons, List.drop_zero])
  obtain rfl | rfl := Bool.eq_false_or_eq_true q6 |>.symm
  · ((go_wp2_with fail); go_ret; exact ⟨by rw [Hr.out]; rfl, S.out.b⟩)
  refine list_hold 7 fun L HL => ?_
  simp only [List.take_succ_cons, List.take_zero, List.cons_append, List.nil_append]
  have x7 := Wa.out.c7
  have y7 := Wb.out.c7
  have hq := Hq7.out
  go_wp2_with fail
  clear x7 y7 hq
  ((have hL := HL.out); clear HL; subst hL; simp only [List.drop_succ_cons, List.drop_zero])
  obtain rfl | rfl := Bool.eq_false_or_eq_true q7 |>.symm
  · ((go_wp2_with fail); go_ret; exact ⟨by rw [Hr.out]; rfl, S.out.b⟩)
  refine list_hold 7 fun L HL => ?_
  simp only [List.take_succ_cons, List.take_zero, List.cons_append, List.nil_append]
  have x8 := Wa.out.c8
  have y8 := Wb.out.c8
  have x9 := Wa.out.c9
  have y9 := Wb.out.c9
  have hq := Heq8.out
  go_wp2_with fail
  clear x8 y8 x9 y9 hq
  ((have hL := HL.out); clear HL; subst hL; simp only [List.drop_succ_cons, List.drop_zero])
  obtain rfl | rfl := Bool.eq_false_or_eq_true q8 |>.symm
  · ((go_wp2_with fail); go_ret; exact ⟨by rw [Hr.out]; rfl, S.out.b⟩)
  refine list_hold 7 fun L HL => ?_
  simp only [List.take_succ_cons, List.take_zero, List.cons_append, List.nil_append]
  have x10 := Wa.out.c10
  have y10 := Wb.out.c10
  have x11 := Wa.out.c11
  have y11 := Wb.out.c11
  have x12 := Wa.out.c12
  have y12 := Wb.out.c12
  have x13 := Wa.out.c13
  have y13 := Wb.out.c13
  have x14 := Wa.out.c14
  have y14 := Wb.out.c14
  have x15 := Wa.out.c15
  have y15 := Wb.out.c15
  have x16 := Wa.out.c16
  have y16 := Wb.out.c16
  have x17 := Wa.out.c17
  have y17 := Wb.out.c17
  have x18 := Wa.out.c18
  have y18 := Wb.out.c18
  have x19 := Wa.out.c19
  have y19 := Wb.out.c19
  have x20 := Wa.out.c20
  have y20 := Wb.out.c20
  have x21 := Wa.out.c21
  have y21 := Wb.out.c21
  have hq := Heq9.out
  go_wp2_with fail
  clear x10 y10 x11 y11 x12 y12 x13 y13 x14 y14 x15 y15 x16 y16 x17 y17 x18 y18 x19 y19 x20 y20 x21 y21 hq
  ((have hL := HL.out); clear HL; subst hL; simp only [List.drop_succ_cons, List.drop_zero])
  obtain rfl | rfl := Bool.eq_false_or_eq_true q9 |>.symm
  · ((go_wp2_with fail); go_ret; exact ⟨by rw [Hr.out]; rfl, S.out.b⟩)
  refine list_hold 7 fun L HL => ?_
  simp only [List.take_succ_cons, List.take_zero, List.cons_append, List.nil_append]
  have x22 := Wa.out.c22
  have y22 := Wb.out.c22
  have x23 := Wa.out.c23
  have y23 := Wb.out.c23
  have x24 := Wa.out.c24
  have y24 := Wb.out.c24
  have x25 := Wa.out.c25
  have y25 := Wb.out.c25
  have x26 := Wa.out.c26
  have y26 := Wb.out.c26
  have x27 := Wa.out.c27
  have y27 := Wb.out.c27
  have hq := Heq10.out
  go_wp2_with fail
  clear x22 y22 x23 y23 x24 y24 x25 y25 x26 y26 x27 y27 hq
  ((have hL := HL.out); clear HL; subst hL; simp only [List.drop_succ_cons, List.drop_zero])
  obtain rfl | rfl := Bool.eq_false_or_eq_true q10 |>.symm
  · ((go_wp2_with fail); go_ret; exact ⟨by rw [Hr.out]; rfl, S.out.b⟩)
  refine list_hold 7 fun L HL => ?_
  simp only [List.take_succ_cons, List.take_zero, List.cons_append, List.nil_append]
  have x28 := Wa.out.c28
  have y28 := Wb.out.c28
  have x29 := Wa.out.c29
  have y29 := Wb.out.c29
  have x30 := Wa.out.c30
  have y30 := Wb.out.c30
  rw [Hms.out] at x30
  rw [Hms2.out] at y30
  go_wp2_with fail
  refine (O.rsame_any a1 a2 k1 k2 a.mp b.mp wa (Hz1.out.grow S.out.b) (Hz2.out.grow S.out.b) hm).mono ?_
  rintro e w5 ⟨rfl, hb5⟩
  rw [Hq11.out]
  have S := Lib.hid (S.out.grow hb5)
  clear hb5 x28 y28 x29 y29 x30 y30 Wa Wb
  have Wa : Hid (WBox w5 B a ms ds) := Lib.hid (wboxD (by rw [← HV.out]; exact (S.out.pull (A := [_])).head))
  have Wb : Hid (WBox w5 (B + 1) b ms2 ds2) := Lib.hid (wboxD (by rw [← HV2.out]; exact S.out.head))
  go_wp2_with fail
  ((have hL := HL.out); clear HL; subst hL; simp only [List.drop_succ_cons, List.drop_zero])
  obtain rfl | rfl := Bool.eq_false_or_eq_true q11 |>.symm
  · ((go_wp2_with fail); go_ret; exact ⟨by rw [Hr.out]; rfl, S.out.b⟩)
  refine list_hold 7 fun L HL => ?_
  simp only [List.take_succ_cons, List.take_zero, List.cons_append, List.nil_append]
  have x31 := Wa.out.c31
  have y31 := Wb.out.c31
  have x32 := Wa.out.c32
  have y32 := Wb.out.c32
  have x33 := Wa.out.c33
  have y33 := Wb.out.c33
  have x34 := Wa.out.c34
  have y34 := Wb.out.c34
  have x35 := Wa.out.c35
  have y35 := Wb.out.c35
  have hq := Heq12.out
  go_wp2_with fail
  clear x31 y31 x32 y32 x33 y33 x34 y34 x35 y35 hq
  ((have hL := HL.out); clear HL; subst hL; simp only [List.drop_succ_cons, List.drop_zero])
  obtain rfl | rfl := Bool.eq_false_or_eq_true q12 |>.symm
  · ((go_wp2_with fail); go_ret; exact ⟨by rw [Hr.out]; rfl, S.out.b⟩)
  have x36 := Wa.out.c36
  have y36 := Wb.out.c36
  have u1 := conv_str (Hb1.out.below S.out.b) c1
  have u2 := conv_str (Hb2.out.below S.out.b) c2
  rw [Hds.out] at x36
  rw [Hds2.out] at y36
  go_wp2_with fail
  clear x36 y36 u1 u2
  go_ret
  exact ⟨by rw [Hr.out, ← Heq13.out]; rfl, S.out.b⟩
end Go.Proofs.Ythlcmjgdilebeaa
