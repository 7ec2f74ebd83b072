/- The contract of done: a merge that is done. -/
import Derived.Test.YtobnibdeimiinaaDSt
import Derived.Test.YtobnibdeimiinaaSq
import Derived.Test.YtobnibdeimiinaaStep
namespace Go.Proofs.Ytobnibdeimiinaa
open Go.RowKit

theorem set_del : ∀ (l : List Zn) (i : Nat) (_ : i + 1 < l.length) (a : Zn), (l.set i a).eraseIdx (i + 1) = l.take i ++ a :: l.drop (i + 2)
  | x :: l, 0, h, a => by
    cases l with
    | nil => simp at h
    | cons y r => simp
  | x :: l, i + 1, h, a => by
    have := set_del l i (by simpa using h) a
    simpa using this
theorem del_len {l : List Zn} {i n : Nat} (hi : i + 1 < n) (hn : n = l.length) (a : Zn) : n - 1 = (l.take i ++ a :: l.drop (i + 2)).length := by
  subst hn
  simp only [List.length_append, List.length_cons, List.length_take, List.length_drop]
  omega
set_option maxRecDepth 20000 in
set_option maxHeartbeats 4000000 in
theorem done_merge {W w : World} {L : List Th} {p g zc : Nat} {m : Mp} {ho : Option Addr} {hl hc : Nat} (h : St W w (thDir 76 W.heap.size p g zc m ho hl hc :: L)) (hm : m.zs.length ≤ 16) (i : Nat) (z y : Zn) (hi : m.zs[i]? = some z) (hy : m.zs[i + 1]? = some y) (hz : 1 ≤ z.epoch) (hyz : 1 ≤ y.epoch) (c : Ch) (h1 : z.pend = 2) (h2 : z.epoch = c.epoch) (h3 : z.epoch < 1099511627776) (h5 : y.id = z.nw) (h4 : y.epoch < 1099511627776) :
    Calls Try.prog 42 #[.pointer (some ⟨p, 0, none⟩), .int .i64 i, .agg #[.int .i64 c.kind, .int .i64 c.zone, .int .i64 c.epoch, .int .i64 c.tt, .string c.key]] w (ChPost 76 W p m ho hl hc L (some { m with zs := m.zs.take i ++ joinZ z y :: m.zs.drop (i + 2) })) := by
  obtain ⟨hp, c0, c1, c2, c3, hf⟩ := dir_cells h.head
  obtain ⟨hil, hie⟩ := List.getElem?_eq_some_iff.1 hi
  obtain ⟨hil2, hye⟩ := List.getElem?_eq_some_iff.1 hy
  have hat := h.head.2.1.at
  have hg := hat.lt
  have hgp := h.head.2.2
  have hpg : p ≠ g := fun e => hgp e.symm
  obtain ⟨d0, d1, d2, d3, d4, d5, d6, d7, d8⟩ := hat.nine i hil z hie.symm
  obtain ⟨r0, r1, r2, r3, r4, r5, r6, r7, r8⟩ := hat.nine (i + 1) hil2 y hye.symm
  have hfg : ∀ j, w.frozen? ⟨g, j, none⟩ = false := h.head.2.1.frozen
  have H := Lib.hid h
  obtain ⟨n, hn⟩ : ∃ n, n = m.zs.length := ⟨_, rfl⟩
  rw [← hn] at hil hil2 hm c2
  have Hn := Lib.hid hn
  have Hi := Lib.hid hi
  have Hy := Lib.hid hy
  clear hat hn hi hie h c0 c1 c3 hf hy hye
  have e0 : (z.pend == 0) = false := by rw [h1]; rfl
  have e1 : (z.pend == 1) = false := by rw [h1]; rfl
  have e2 : (z.pend == 2) = true := by rw [h1]; rfl
  have e3 : (z.epoch != c.epoch) = false := by rw [bne_eq_false_iff_eq]; exact h2
  have e4 : decide (1099511627776 ≤ z.epoch) = false := by rw [decide_eq_false_iff_not]; omega
  have e5 : (y.id != z.nw) = false := by rw [bne_eq_false_iff_eq]; exact h5
  have e6 : decide ((n : Int) ≤ (i : Int) + 1) = false := by rw [decide_eq_false_iff_not]; omega
  have e7 : decide (n ≤ i + 1) = false := by rw [decide_eq_false_iff_not]; omega
  have x1 : IntKind.i64.wrap ((i : Int) + 1) = (i : Int) + 1 := by rw [IntKind.wrap_i64]; omega
  clear h1 h2 h5
  (go_enter Try.func42, Try.ntmps42; (go_wp2_with fail); (refine wp_name fun wa hwa => ?_; have wa_s0 : p < wa.heap.size := (by rw [hwa]; first | omega | (simp; done) | (simp; omega)); have wa_s1 : g < wa.heap.size := (by rw [hwa]; first | omega | (simp; done) | (simp; omega)); have wa_s2 : w.heap.size < wa.heap.size := (by rw [hwa]; first | omega | (simp; done) | (simp; omega)); have wa_s3 : w.heap.size + 1 < wa.heap.size := (by rw [hwa]; first | omega | (simp; done) | (simp; omega)); have wa_c0 : wa.cell? ⟨p, 2, none⟩ = some (.slice (some ⟨g, 0, none⟩) n zc) := (by rw [hwa]; go_simp); have wa_c1 : wa.cell? ⟨w.heap.size + 1, 0, none⟩ = some (.int .i64 z.id) := (by rw [hwa]; go_simp); have wa_c2 : wa.cell? ⟨w.heap.size + 1, 1, none⟩ = some (.string z.fr) := (by rw [hwa]; go_simp); have wa_c3 : wa.cell? ⟨w.heap.size + 1, 2, none⟩ = some (.string z.to) := (by rw [hwa]; go_simp); have wa_c4 : wa.cell? ⟨w.heap.size + 1, 3, none⟩ = some (.int .i64 z.owner) := (by rw [hwa]; go_simp); have wa_c5 : wa.cell? ⟨w.heap.size + 1, 4, none⟩ = some (.int .i64 z.epoch) := (by rw [hwa]; go_simp); have wa_c6 : wa.cell? ⟨w.heap.size + 1, 5, none⟩ = some (.int .i64 z.pend) := (by rw [hwa]; go_simp); have wa_c7 : wa.cell? ⟨w.heap.size + 1, 6, none⟩ = some (.int .i64 z.tt) := (by rw [hwa]; go_simp); have wa_c8 : wa.cell? ⟨w.heap.size + 1, 7, none⟩ = some (.string z.key) := (by rw [hwa]; go_simp); have wa_c9 : wa.cell? ⟨w.heap.size + 1, 8, none⟩ = some (.int .i64 z.nw) := (by rw [hwa]; go_simp); have wa_b : Below w.heap.size w wa := (by rw [hwa]; exact (by repeat (first | with_reducible exact Below.refl _ _ | with_reducible assumption | with_reducible refine Below.drew ?_ | with_reducible refine below_drawn ?_ | with_reducible refine Below.alloc ?_ (by first | omega | (simp; done) | (simp; omega) | (simp at *; omega)) _ | with_reducible refine Below.setCell ?_ (by first | omega | (simp; done) | (simp; omega) | (simp at *; omega)) _ | with_reducible refine Below.trans ?_ (Below.mono (by assumption) (by first | omega | (simp; done) | (simp; omega) | (simp at *; omega)))))); clear hwa); (obtain ⟨xc, xf⟩ := bcell wa_b); (have a0 := (xc _ _ hg).trans r0); (have a1 := (xc _ _ hg).trans r1); (have a2 := (xc _ _ hg).trans r2); (have a3 := (xc _ _ hg).trans r3); (have a4 := (xc _ _ hg).trans r4); (have a5 := (xc _ _ hg).trans r5); (have a6 := (xc _ _ hg).trans r6); (have a7 := (xc _ _ hg).trans r7); (have a8 := (xc _ _ hg).trans r8); clear xc xf r0 r1 r2 r3 r4 r5 r6 r7 r8 c2; ((refine wp_region_gr (by kernel_rfl) (by kernel_rfl) ?_; (repeat (go_big_quiet_step (fail))); refine wpQuiet_nil ?_; intro _ hw'; obtain ⟨g1, hw''⟩ := hw'; subst hw'')); (have hgb := gr_below wa g1); (have hgs := gr_le wa g1); (have wa_le := wa_b.size); (have y0 : p < (gr wa g1).heap.size := (by omega)); (have y1 : g < (gr wa g1).heap.size := (by omega)); (have y2 : w.heap.size < (gr wa g1).heap.size := (by omega)); (have y3 : w.heap.size + 1 < (gr wa g1).heap.size := (by omega)); (go_wp2_with fail))
  obtain ⟨ep, hep⟩ : ∃ ep, ep = max z.epoch y.epoch + 1 := ⟨_, rfl⟩
  obtain ⟨ok, hok⟩ : ∃ ok, ok = joinOk z.fr z.to y.fr y.to := ⟨_, rfl⟩
  have hjn := fun w => span_join z.fr z.to y.fr y.to w
  rw [← hok] at hjn
  have Hjn := Lib.hid hjn
  rw [← hep]
  have Hep := Lib.hid hep
  have Hok := Lib.hid hok
  clear hjn hep hok
  (refine calls_name fun wb hwb => ?_; have wb_s0 : p < wb.heap.size := (by rw [hwb]; first | omega | (simp; done) | (simp; omega)); have wb_s1 : g < wb.heap.size := (by rw [hwb]; first | omega | (simp; done) | (simp; omega)); have wb_s2 : w.heap.size + 1 < wb.heap.size := (by rw [hwb]; first | omega | (simp; done) | (simp; omega)); have wb_s3 : (gr wa g1).heap.size < wb.heap.size := (by rw [hwb]; first | omega | (simp; done) | (simp; omega)); have wb_c0 : wb.cell? ⟨p, 2, none⟩ = some (.slice (some ⟨g, 0, none⟩) n zc) := (by rw [hwb]; go_simp); have wb_c1 : wb.cell? ⟨w.heap.size + 1, 1, none⟩ = some (.string z.fr) := (by rw [hwb]; go_simp); have wb_c2 : wb.cell? ⟨w.heap.size + 1, 2, none⟩ = some (.string z.to) := (by rw [hwb]; go_simp); have wb_c3 : wb.cell? ⟨(gr wa g1).heap.size, 1, none⟩ = some (.string y.fr) := (by rw [hwb]; go_simp); have wb_c4 : wb.cell? ⟨(gr wa g1).heap.size, 2, none⟩ = some (.string y.to) := (by rw [hwb]; go_simp); have wb_b : Below w.heap.size w wb := (by rw [hwb]; exact (by repeat (first | with_reducible exact Below.refl _ _ | with_reducible assumption | with_reducible refine Below.drew ?_ | with_reducible refine below_drawn ?_ | with_reducible refine Below.alloc ?_ (by first | omega | (simp; done) | (simp; omega) | (simp at *; omega)) _ | with_reducible refine Below.setCell ?_ (by first | omega | (simp; done) | (simp; omega) | (simp at *; omega)) _ | with_reducible refine Below.trans ?_ (Below.mono (by assumption) (by first | omega | (simp; done) | (simp; omega) | (simp at *; omega)))))); clear hwb)
  have wb_le := wb_b.size
  have y4 : (gr wa g1).heap.size ≠ w.heap.size + 1 := by omega
  obtain ⟨N, hN⟩ : ∃ N, N = (gr wa g1).heap.size := ⟨_, rfl⟩
  rw [← hN] at wb_s3 wb_c3 wb_c4 y4 ⊢
  clear hgb hgs a0 a1 a2 a3 a4 a5 a6 a7 a8 wa_c0 wa_c1 wa_c2 wa_c3 wa_c4 wa_c5 wa_c6 wa_c7 wa_c8 wa_c9 y0 y1 y2 y3 wa_b wa_le hN
  refine (ended_any z ep _).mono ?_
  (rintro e w1 ⟨rfl, w1_h⟩; obtain ⟨w1_hc, w1_hf⟩ := bcell w1_h; have w1_z := w1_h.size; have w1_b := wb_b.trans (w1_h.mono (by have := wb_b.size; omega)); have w1_le := w1_b.size; have w1_s0 : p < w1.heap.size := (by omega); have w1_s1 : g < w1.heap.size := (by omega); have w1_s2 : w.heap.size + 1 < w1.heap.size := (by omega); have w1_s3 : N < w1.heap.size := (by omega); clear w1_h)
  go_wp2_with fail
  (refine calls_name fun wc hwc => ?_; have wc_s0 : p < wc.heap.size := (by rw [hwc]; first | omega | (simp; done) | (simp; omega)); have wc_s1 : g < wc.heap.size := (by rw [hwc]; first | omega | (simp; done) | (simp; omega)); have wc_s2 : w1.heap.size < wc.heap.size := (by rw [hwc]; first | omega | (simp; done) | (simp; omega)); have wc_c0 : wc.cell? ⟨p, 2, none⟩ = some (.slice (some ⟨g, 0, none⟩) n zc) := (by rw [hwc]; go_simp); have wc_c1 : wc.cell? ⟨w1.heap.size, 0, none⟩ = some (.int .i64 z.id) := (by rw [hwc]; go_simp); have wc_f1 : wc.frozen? ⟨w1.heap.size, 0, none⟩ = false := (by rw [hwc]; go_simp); have wc_c2 : wc.cell? ⟨w1.heap.size, 1, none⟩ = some (.string z.fr) := (by rw [hwc]; go_simp); have wc_f2 : wc.frozen? ⟨w1.heap.size, 1, none⟩ = false := (by rw [hwc]; go_simp); have wc_c3 : wc.cell? ⟨w1.heap.size, 2, none⟩ = some (.string z.to) := (by rw [hwc]; go_simp); have wc_f3 : wc.frozen? ⟨w1.heap.size, 2, none⟩ = false := (by rw [hwc]; go_simp); have wc_c4 : wc.cell? ⟨w1.heap.size, 3, none⟩ = some (.int .i64 z.owner) := (by rw [hwc]; go_simp); have wc_c5 : wc.cell? ⟨w1.heap.size, 4, none⟩ = some (.int .i64 ep) := (by rw [hwc]; go_simp); have wc_c6 : wc.cell? ⟨w1.heap.size, 5, none⟩ = some (.int .i64 0) := (by rw [hwc]; go_simp); have wc_c7 : wc.cell? ⟨w1.heap.size, 6, none⟩ = some (.int .i64 0) := (by rw [hwc]; go_simp); have wc_c8 : wc.cell? ⟨w1.heap.size, 7, none⟩ = some (.string ⟨#[]⟩) := (by rw [hwc]; go_simp); have wc_c9 : wc.cell? ⟨w1.heap.size, 8, none⟩ = some (.int .i64 0) := (by rw [hwc]; go_simp); have wc_b : Below w.heap.size w wc := (by rw [hwc]; exact (by repeat (first | with_reducible exact Below.refl _ _ | with_reducible assumption | with_reducible refine Below.drew ?_ | with_reducible refine below_drawn ?_ | with_reducible refine Below.alloc ?_ (by first | omega | (simp; done) | (simp; omega) | (simp at *; omega)) _ | with_reducible refine Below.setCell ?_ (by first | omega | (simp; done) | (simp; omega) | (simp at *; omega)) _ | with_reducible refine Below.trans ?_ (Below.mono (by assumption) (by first | omega | (simp; done) | (simp; omega) | (simp at *; omega)))))); clear hwc)
  have wc_le := wc_b.size
  refine (Hjn.out _).mono ?_
  (rintro e w2 ⟨rfl, w2_h⟩; obtain ⟨w2_hc, w2_hf⟩ := bcell w2_h; have w2_z := w2_h.size; have w2_b := wc_b.trans (w2_h.mono (by have := wc_b.size; omega)); have w2_le := w2_b.size; have w2_s0 : p < w2.heap.size := (by omega); have w2_s1 : g < w2.heap.size := (by omega); have w2_s2 : w1.heap.size < w2.heap.size := (by omega); clear w2_h)
  go_wp2_with fail
  (refine wp_name fun wd hwd => ?_; have wd_s0 : p < wd.heap.size := (by rw [hwd]; first | omega | (simp; done) | (simp; omega)); have wd_s1 : g < wd.heap.size := (by rw [hwd]; first | omega | (simp; done) | (simp; omega)); have wd_s2 : w1.heap.size < wd.heap.size := (by rw [hwd]; first | omega | (simp; done) | (simp; omega)); have wd_c0 : wd.cell? ⟨p, 2, none⟩ = some (.slice (some ⟨g, 0, none⟩) n zc) := (by rw [hwd]; go_simp); have wd_c1 : wd.cell? ⟨w1.heap.size, 0, none⟩ = some (.int .i64 z.id) := (by rw [hwd]; go_simp); have wd_c2 : wd.cell? ⟨w1.heap.size, 1, none⟩ = some (.string (sel ok z.fr)) := (by rw [hwd]; go_simp); have wd_c3 : wd.cell? ⟨w1.heap.size, 2, none⟩ = some (.string (sel ok y.to)) := (by rw [hwd]; go_simp); have wd_c4 : wd.cell? ⟨w1.heap.size, 3, none⟩ = some (.int .i64 z.owner) := (by rw [hwd]; go_simp); have wd_c5 : wd.cell? ⟨w1.heap.size, 4, none⟩ = some (.int .i64 ep) := (by rw [hwd]; go_simp); have wd_c6 : wd.cell? ⟨w1.heap.size, 5, none⟩ = some (.int .i64 0) := (by rw [hwd]; go_simp); have wd_c7 : wd.cell? ⟨w1.heap.size, 6, none⟩ = some (.int .i64 0) := (by rw [hwd]; go_simp); have wd_c8 : wd.cell? ⟨w1.heap.size, 7, none⟩ = some (.string ⟨#[]⟩) := (by rw [hwd]; go_simp); have wd_c9 : wd.cell? ⟨w1.heap.size, 8, none⟩ = some (.int .i64 0) := (by rw [hwd]; go_simp); have wd_b : Below w.heap.size w wd := (by rw [hwd]; exact (by repeat (first | with_reducible exact Below.refl _ _ | with_reducible assumption | with_reducible refine Below.drew ?_ | with_reducible refine below_drawn ?_ | with_reducible refine Below.alloc ?_ (by first | omega | (simp; done) | (simp; omega) | (simp at *; omega)) _ | with_reducible refine Below.setCell ?_ (by first | omega | (simp; done) | (simp; omega) | (simp at *; omega)) _ | with_reducible refine Below.trans ?_ (Below.mono (by assumption) (by first | omega | (simp; done) | (simp; omega) | (simp at *; omega)))))); clear hwd)
  have wd_le := wd_b.size
  obtain ⟨xc, xf⟩ := bcell wd_b
  clear wb_s0 wb_s1 wb_s2 wb_s3 wb_c0 wb_c1 wb_c2 wb_c3 wb_c4 w1_hc w1_hf w2_hc w2_hf
  go_still_tail 8, (by kernel_rfl)
  change wpList _ _ _ _ _ (World.drew _)
  go_wp2_with fail
  refine calls_name fun w3 hw3 => ?_
  have HS : Hid (St W w3 (thDir 76 W.heap.size p g zc { m with zs := m.zs.set i (Zn.mk z.id (sel ok z.fr) (sel ok y.to) z.owner ep 0 0 z0 0) } ho hl hc :: L)) := by
    rw [hw3]; exact Lib.hid (((H.out.grow wd_b).dirNine i (by rw [← Hn.out]; exact hil) (Zn.mk z.id (sel ok z.fr) (sel ok y.to) z.owner ep 0 0 z0 0)).grow (Below.refl _ _).drew)
  have kf : w3.frozen? ⟨p, 2, none⟩ = false := (dir_cells HS.out.head).2.2.2.2.2 2
  have kp : p < w3.heap.size := (dir_cells HS.out.head).1
  have kc : w3.cell? ⟨p, 2, none⟩ = some (.slice (some ⟨g, 0, none⟩) n zc) := by rw [hw3]; go_simp
  clear hw3 xc xf d0 d1 d2 d3 d4 d5 d6 d7 d8 hfg wd_b wd_s0 wd_s1 wd_s2 wd_c0 wd_c1 wd_c2 wd_c3 wd_c4 wd_c5 wd_c6 wd_c7 wd_c8 wd_c9
  have hl2 : n = (m.zs.set i (Zn.mk z.id (sel ok z.fr) (sel ok y.to) z.owner ep 0 0 z0 0)).length := by rw [List.length_set, ← Hn.out]
  have hdel := delete_any W.heap.size g zc (m.zs.set i (Zn.mk z.id (sel ok z.fr) (sel ok y.to) z.owner ep 0 0 z0 0)) (i + 1) w3 HS.out.head.2.1 (by rw [← hl2]; omega) (by rw [← hl2]; omega)
  rw [← hl2, show (((i + 1 : Nat) : Int) + 1) = (i : Int) + 2 by omega, show ((i + 1 : Nat) : Int) = (i : Int) + 1 by omega] at hdel
  have Hdel := Lib.hid hdel
  clear hdel hl2
  refine Hdel.out.mono ?_
  rintro e w4 ⟨rfl, ho4, hk4⟩
  have hset := set_del m.zs i (by rw [← Hn.out]; exact hil2) (Zn.mk z.id (sel ok z.fr) (sel ok y.to) z.owner ep 0 0 z0 0)
  have hfin : Hid (St W (w4.setCell ⟨p, 2, none⟩ (.slice (some ⟨g, 0, none⟩) (n - 1) zc)) (thDir 76 W.heap.size p g zc { m with zs := m.zs.take i ++ joinZ z y :: m.zs.drop (i + 2) } ho hl hc :: L)) := by
    have hj : joinZ z y = Zn.mk z.id (sel ok z.fr) (sel ok y.to) z.owner ep 0 0 z0 0 := by rw [Hok.out, Hep.out]; rfl
    rw [hset] at ho4
    rw [hj]
    have hlen : n - 1 = (m.zs.take i ++ Zn.mk z.id (sel ok z.fr) (sel ok y.to) z.owner ep 0 0 z0 0 :: m.zs.drop (i + 2)).length := del_len hil2 Hn.out _
    exact Lib.hid (HS.out.dirRow hk4 (show OwnZ w4 W.heap.size g zc _ by unfold OwnZ; rw [← hlen]; exact ho4) (.inl rfl) (n - 1) hlen)
  have kc4 := (hk4.cell (p := ⟨p, 2, none⟩) kp hpg).trans kc
  have kf4 := (hk4.frozen (p := ⟨p, 2, none⟩) kp hpg).trans kf
  clear ho4 hk4 hset kc kf
  go_wp2_with fail
  go_ret
  exact chPost_yes rfl hfin.out
end Go.Proofs.Ytobnibdeimiinaa
