/- The contract of done: all together. -/
import Derived.Test.YtobnibdeimiinaaDDs
import Derived.Test.YtobnibdeimiinaaDDm
import Derived.Test.YtobnibdeimiinaaDDn
namespace Go.Proofs.Ytobnibdeimiinaa
open Go.RowKit

set_option maxRecDepth 20000 in
set_option maxHeartbeats 2000000 in
theorem done_no {W w : World} {L : List Th} {p g zc : Nat} {m : Mp} {ho : Option Addr} {hl hc : Nat} (h : St W w (thDir 76 W.heap.size p g zc m ho hl hc :: L)) (i : Nat) (z : Zn) (hi : m.zs[i]? = some z) (c : Ch) (hno : z.pend = 0 ∨ z.epoch ≠ c.epoch ∨ 1099511627776 ≤ z.epoch) :
    Calls Try.prog 42 #[.pointer (some ⟨p, 0, none⟩), .int .i64 i, .agg #[.int .i64 c.kind, .int .i64 c.zone, .int .i64 c.epoch, .int .i64 c.tt, .string c.key]] w (ChPost 76 W p m ho hl hc L none) := by
  obtain ⟨hp, c0, c1, c2, c3, hf⟩ := dir_cells h.head
  obtain ⟨hil, hie⟩ := List.getElem?_eq_some_iff.1 hi
  have hat := h.head.2.1.at
  have hg := hat.lt
  obtain ⟨d0, d1, d2, d3, d4, d5, d6, d7, d8⟩ := hat.nine i hil z hie.symm
  have H := Lib.hid h
  obtain ⟨n, hn⟩ : ∃ n, n = m.zs.length := ⟨_, rfl⟩
  rw [← hn] at hil c2
  have Hn := Lib.hid hn
  clear hat hn hi hie h c0 c1 c3 hf
  by_cases h1 : z.pend = 0
  · have e0 : (z.pend == 0) = true := by rw [h1]; rfl
    clear h1 hno
    (go_enter Try.func42, Try.ntmps42; (go_wp2_with fail); go_ret; exact chPost_no H.out rfl (by repeat (first | with_reducible exact Below.refl _ _ | with_reducible assumption | with_reducible refine Below.drew ?_ | with_reducible refine below_drawn ?_ | with_reducible refine Below.alloc ?_ (by first | omega | (simp; done) | (simp; omega) | (simp at *; omega)) _ | with_reducible refine Below.setCell ?_ (by first | omega | (simp; done) | (simp; omega) | (simp at *; omega)) _ | with_reducible refine Below.trans ?_ (Below.mono (by assumption) (by first | omega | (simp; done) | (simp; omega) | (simp at *; omega))))))
  · have e0 : (z.pend == 0) = false := by rw [beq_eq_false_iff_ne]; exact h1
    by_cases h2 : z.epoch = c.epoch
    · have e3 : (z.epoch != c.epoch) = false := by rw [bne_eq_false_iff_eq]; exact h2
      have e4 : decide (1099511627776 ≤ z.epoch) = true := by rw [decide_eq_true_eq]; omega
      clear h1 h2 hno
      (go_enter Try.func42, Try.ntmps42; (go_wp2_with fail); go_ret; exact chPost_no H.out rfl (by repeat (first | with_reducible exact Below.refl _ _ | with_reducible assumption | with_reducible refine Below.drew ?_ | with_reducible refine below_drawn ?_ | with_reducible refine Below.alloc ?_ (by first | omega | (simp; done) | (simp; omega) | (simp at *; omega)) _ | with_reducible refine Below.setCell ?_ (by first | omega | (simp; done) | (simp; omega) | (simp at *; omega)) _ | with_reducible refine Below.trans ?_ (Below.mono (by assumption) (by first | omega | (simp; done) | (simp; omega) | (simp at *; omega))))))
    · have e3 : (z.epoch != c.epoch) = true := by rw [bne_iff_ne]; exact h2
      clear h1 h2 hno
      (go_enter Try.func42, Try.ntmps42; (go_wp2_with fail); go_ret; exact chPost_no H.out rfl (by repeat (first | with_reducible exact Below.refl _ _ | with_reducible assumption | with_reducible refine Below.drew ?_ | with_reducible refine below_drawn ?_ | with_reducible refine Below.alloc ?_ (by first | omega | (simp; done) | (simp; omega) | (simp at *; omega)) _ | with_reducible refine Below.setCell ?_ (by first | omega | (simp; done) | (simp; omega) | (simp at *; omega)) _ | with_reducible refine Below.trans ?_ (Below.mono (by assumption) (by first | omega | (simp; done) | (simp; omega) | (simp at *; omega))))))
set_option maxRecDepth 20000 in
set_option maxHeartbeats 2000000 in
theorem done_lone {W w : World} {L : List Th} {p g zc : Nat} {m : Mp} {ho : Option Addr} {hl hc : Nat} (h : St W w (thDir 76 W.heap.size p g zc m ho hl hc :: L)) (i : Nat) (z : Zn) (hi : m.zs[i]? = some z) (hm : m.zs.length ≤ 16) (hlast : m.zs.length ≤ i + 1) (c : Ch) (h1 : z.pend = 2) (h2 : z.epoch = c.epoch) (h3 : z.epoch < 1099511627776) :
    Calls Try.prog 42 #[.pointer (some ⟨p, 0, none⟩), .int .i64 i, .agg #[.int .i64 c.kind, .int .i64 c.zone, .int .i64 c.epoch, .int .i64 c.tt, .string c.key]] w (ChPost 76 W p m ho hl hc L none) := by
  obtain ⟨hp, c0, c1, c2, c3, hf⟩ := dir_cells h.head
  obtain ⟨hil, hie⟩ := List.getElem?_eq_some_iff.1 hi
  have hat := h.head.2.1.at
  have hg := hat.lt
  obtain ⟨d0, d1, d2, d3, d4, d5, d6, d7, d8⟩ := hat.nine i hil z hie.symm
  have H := Lib.hid h
  obtain ⟨n, hn⟩ : ∃ n, n = m.zs.length := ⟨_, rfl⟩
  rw [← hn] at hil c2 hm hlast
  have Hn := Lib.hid hn
  clear hat hn hi hie h c0 c1 c3 hf
  have e0 : (z.pend == 0) = false := by rw [h1]; rfl
  have e1 : (z.pend == 1) = false := by rw [h1]; rfl
  have e2 : (z.pend == 2) = true := by rw [h1]; rfl
  have e3 : (z.epoch != c.epoch) = false := by rw [bne_eq_false_iff_eq]; exact h2
  have e4 : decide (1099511627776 ≤ z.epoch) = false := by rw [decide_eq_false_iff_not]; omega
  have e6 : decide ((n : Int) ≤ (i : Int) + 1) = true := by rw [decide_eq_true_eq]; omega
  have e7 : decide (n ≤ i + 1) = true := by rw [decide_eq_true_eq]; omega
  have x1 : IntKind.i64.wrap ((i : Int) + 1) = (i : Int) + 1 := by rw [IntKind.wrap_i64]; omega
  clear h1 h2
  go_enter Try.func42, Try.ntmps42
  go_wp2_with fail
  (refine wp_name fun wa hwa => ?_; have wa_s0 : p < wa.heap.size := (by rw [hwa]; first | omega | (simp; done) | (simp; omega)); have wa_s1 : g < wa.heap.size := (by rw [hwa]; first | omega | (simp; done) | (simp; omega)); have wa_s2 : w.heap.size < wa.heap.size := (by rw [hwa]; first | omega | (simp; done) | (simp; omega)); have wa_s3 : w.heap.size + 1 < wa.heap.size := (by rw [hwa]; first | omega | (simp; done) | (simp; omega)); have wa_c0 : wa.cell? ⟨p, 2, none⟩ = some (.slice (some ⟨g, 0, none⟩) n zc) := (by rw [hwa]; go_simp); have wa_c1 : wa.cell? ⟨w.heap.size + 1, 0, none⟩ = some (.int .i64 z.id) := (by rw [hwa]; go_simp); have wa_c2 : wa.cell? ⟨w.heap.size + 1, 1, none⟩ = some (.string z.fr) := (by rw [hwa]; go_simp); have wa_c3 : wa.cell? ⟨w.heap.size + 1, 2, none⟩ = some (.string z.to) := (by rw [hwa]; go_simp); have wa_c4 : wa.cell? ⟨w.heap.size + 1, 3, none⟩ = some (.int .i64 z.owner) := (by rw [hwa]; go_simp); have wa_c5 : wa.cell? ⟨w.heap.size + 1, 4, none⟩ = some (.int .i64 z.epoch) := (by rw [hwa]; go_simp); have wa_c6 : wa.cell? ⟨w.heap.size + 1, 5, none⟩ = some (.int .i64 z.pend) := (by rw [hwa]; go_simp); have wa_c7 : wa.cell? ⟨w.heap.size + 1, 6, none⟩ = some (.int .i64 z.tt) := (by rw [hwa]; go_simp); have wa_c8 : wa.cell? ⟨w.heap.size + 1, 7, none⟩ = some (.string z.key) := (by rw [hwa]; go_simp); have wa_c9 : wa.cell? ⟨w.heap.size + 1, 8, none⟩ = some (.int .i64 z.nw) := (by rw [hwa]; go_simp); have wa_b : Below w.heap.size w wa := (by rw [hwa]; exact (by repeat (first | with_reducible exact Below.refl _ _ | with_reducible assumption | with_reducible refine Below.drew ?_ | with_reducible refine below_drawn ?_ | with_reducible refine Below.alloc ?_ (by first | omega | (simp; done) | (simp; omega) | (simp at *; omega)) _ | with_reducible refine Below.setCell ?_ (by first | omega | (simp; done) | (simp; omega) | (simp at *; omega)) _ | with_reducible refine Below.trans ?_ (Below.mono (by assumption) (by first | omega | (simp; done) | (simp; omega) | (simp at *; omega)))))); clear hwa)
  (refine wp_region_gr (by kernel_rfl) (by kernel_rfl) ?_; (repeat (go_big_quiet_step (fail))); refine wpQuiet_nil ?_; intro _ hw'; obtain ⟨g1, hw''⟩ := hw'; subst hw'')
  go_wp2_with fail
  go_ret
  exact chPost_no H.out rfl (wa_b.trans ((gr_below wa g1).mono (by omega)))
set_option maxRecDepth 20000 in
set_option maxHeartbeats 2000000 in
theorem done_other {W w : World} {L : List Th} {p g zc : Nat} {m : Mp} {ho : Option Addr} {hl hc : Nat} (h : St W w (thDir 76 W.heap.size p g zc m ho hl hc :: L)) (hm : m.zs.length ≤ 16) (i : Nat) (z y : Zn) (hi : m.zs[i]? = some z) (hy : m.zs[i + 1]? = some y) (c : Ch) (h1 : z.pend = 2) (h2 : z.epoch = c.epoch) (h3 : z.epoch < 1099511627776) (h5 : y.id ≠ z.nw ∨ 1099511627776 ≤ y.epoch) :
    Calls Try.prog 42 #[.pointer (some ⟨p, 0, none⟩), .int .i64 i, .agg #[.int .i64 c.kind, .int .i64 c.zone, .int .i64 c.epoch, .int .i64 c.tt, .string c.key]] w (ChPost 76 W p m ho hl hc L none) := by
  obtain ⟨hp, c0, c1, c2, c3, hf⟩ := dir_cells h.head
  obtain ⟨hil, hie⟩ := List.getElem?_eq_some_iff.1 hi
  obtain ⟨hil2, hye⟩ := List.getElem?_eq_some_iff.1 hy
  have hat := h.head.2.1.at
  have hg := hat.lt
  have hgp := h.head.2.2
  have hpg : p ≠ g := fun e => hgp e.symm
  obtain ⟨d0, d1, d2, d3, d4, d5, d6, d7, d8⟩ := hat.nine i hil z hie.symm
  obtain ⟨r0, r1, r2, r3, r4, r5, r6, r7, r8⟩ := hat.nine (i + 1) hil2 y hye.symm
  have hfg : ∀ j, w.frozen? ⟨g, j, none⟩ = false := h.head.2.1.frozen
  have H := Lib.hid h
  obtain ⟨n, hn⟩ : ∃ n, n = m.zs.length := ⟨_, rfl⟩
  rw [← hn] at hil hil2 hm c2
  have Hn := Lib.hid hn
  have Hi := Lib.hid hi
  have Hy := Lib.hid hy
  clear hat hn hi hie h c0 c1 c3 hf hy hye
  have e0 : (z.pend == 0) = false := by rw [h1]; rfl
  have e1 : (z.pend == 1) = false := by rw [h1]; rfl
  have e2 : (z.pend == 2) = true := by rw [h1]; rfl
  have e3 : (z.epoch != c.epoch) = false := by rw [bne_eq_false_iff_eq]; exact h2
  have e4 : decide (1099511627776 ≤ z.epoch) = false := by rw [decide_eq_false_iff_not]; omega
  have e6 : decide ((n : Int) ≤ (i : Int) + 1) = false := by rw [decide_eq_false_iff_not]; omega
  have e7 : decide (n ≤ i + 1) = false := by rw [decide_eq_false_iff_not]; omega
  have x1 : IntKind.i64.wrap ((i : Int) + 1) = (i : Int) + 1 := by rw [IntKind.wrap_i64]; omega
  clear h1 h2
  by_cases h6 : y.id = z.nw
  · have e5 : (y.id != z.nw) = false := by rw [bne_eq_false_iff_eq]; exact h6
    have h7 : 1099511627776 ≤ y.epoch := by omega
    have e8 : decide (1099511627776 ≤ max z.epoch y.epoch) = true := by rw [decide_eq_true_eq]; omega
    clear h5 h6
    (go_enter Try.func42, Try.ntmps42; (go_wp2_with fail); (refine wp_name fun wa hwa => ?_; have wa_s0 : p < wa.heap.size := (by rw [hwa]; first | omega | (simp; done) | (simp; omega)); have wa_s1 : g < wa.heap.size := (by rw [hwa]; first | omega | (simp; done) | (simp; omega)); have wa_s2 : w.heap.size < wa.heap.size := (by rw [hwa]; first | omega | (simp; done) | (simp; omega)); have wa_s3 : w.heap.size + 1 < wa.heap.size := (by rw [hwa]; first | omega | (simp; done) | (simp; omega)); have wa_c0 : wa.cell? ⟨p, 2, none⟩ = some (.slice (some ⟨g, 0, none⟩) n zc) := (by rw [hwa]; go_simp); have wa_c1 : wa.cell? ⟨w.heap.size + 1, 0, none⟩ = some (.int .i64 z.id) := (by rw [hwa]; go_simp); have wa_c2 : wa.cell? ⟨w.heap.size + 1, 1, none⟩ = some (.string z.fr) := (by rw [hwa]; go_simp); have wa_c3 : wa.cell? ⟨w.heap.size + 1, 2, none⟩ = some (.string z.to) := (by rw [hwa]; go_simp); have wa_c4 : wa.cell? ⟨w.heap.size + 1, 3, none⟩ = some (.int .i64 z.owner) := (by rw [hwa]; go_simp); have wa_c5 : wa.cell? ⟨w.heap.size + 1, 4, none⟩ = some (.int .i64 z.epoch) := (by rw [hwa]; go_simp); have wa_c6 : wa.cell? ⟨w.heap.size + 1, 5, none⟩ = some (.int .i64 z.pend) := (by rw [hwa]; go_simp); have wa_c7 : wa.cell? ⟨w.heap.size + 1, 6, none⟩ = some (.int .i64 z.tt) := (by rw [hwa]; go_simp); have wa_c8 : wa.cell? ⟨w.heap.size + 1, 7, none⟩ = some (.string z.key) := (by rw [hwa]; go_simp); have wa_c9 : wa.cell? ⟨w.heap.size + 1, 8, none⟩ = some (.int .i64 z.nw) := (by rw [hwa]; go_simp); have wa_b : Below w.heap.size w wa := (by rw [hwa]; exact (by repeat (first | with_reducible exact Below.refl _ _ | with_reducible assumption | with_reducible refine Below.drew ?_ | with_reducible refine below_drawn ?_ | with_reducible refine Below.alloc ?_ (by first | omega | (simp; done) | (simp; omega) | (simp at *; omega)) _ | with_reducible refine Below.setCell ?_ (by first | omega | (simp; done) | (simp; omega) | (simp at *; omega)) _ | with_reducible refine Below.trans ?_ (Below.mono (by assumption) (by first | omega | (simp; done) | (simp; omega) | (simp at *; omega)))))); clear hwa); (obtain ⟨xc, xf⟩ := bcell wa_b); (have a0 := (xc _ _ hg).trans r0); (have a1 := (xc _ _ hg).trans r1); (have a2 := (xc _ _ hg).trans r2); (have a3 := (xc _ _ hg).trans r3); (have a4 := (xc _ _ hg).trans r4); (have a5 := (xc _ _ hg).trans r5); (have a6 := (xc _ _ hg).trans r6); (have a7 := (xc _ _ hg).trans r7); (have a8 := (xc _ _ hg).trans r8); clear xc xf r0 r1 r2 r3 r4 r5 r6 r7 r8 c2; ((refine wp_region_gr (by kernel_rfl) (by kernel_rfl) ?_; (repeat (go_big_quiet_step (fail))); refine wpQuiet_nil ?_; intro _ hw'; obtain ⟨g1, hw''⟩ := hw'; subst hw'')); (have hgb := gr_below wa g1); (have hgs := gr_le wa g1); (have wa_le := wa_b.size); (have y0 : p < (gr wa g1).heap.size := (by omega)); (have y1 : g < (gr wa g1).heap.size := (by omega)); (have y2 : w.heap.size < (gr wa g1).heap.size := (by omega)); (have y3 : w.heap.size + 1 < (gr wa g1).heap.size := (by omega)); (go_wp2_with fail))
    go_ret
    exact chPost_no H.out rfl (by repeat (first | with_reducible exact Below.refl _ _ | with_reducible assumption | with_reducible refine Below.drew ?_ | with_reducible refine below_drawn ?_ | with_reducible refine Below.alloc ?_ (by first | omega | (simp; done) | (simp; omega) | (simp at *; omega)) _ | with_reducible refine Below.setCell ?_ (by first | omega | (simp; done) | (simp; omega) | (simp at *; omega)) _ | with_reducible refine Below.trans ?_ (Below.mono (by assumption) (by first | omega | (simp; done) | (simp; omega) | (simp at *; omega)))))
  · have e5 : (y.id != z.nw) = true := by rw [bne_iff_ne]; exact h6
    clear h5 h6
    (go_enter Try.func42, Try.ntmps42; (go_wp2_with fail); (refine wp_name fun wa hwa => ?_; have wa_s0 : p < wa.heap.size := (by rw [hwa]; first | omega | (simp; done) | (simp; omega)); have wa_s1 : g < wa.heap.size := (by rw [hwa]; first | omega | (simp; done) | (simp; omega)); have wa_s2 : w.heap.size < wa.heap.size := (by rw [hwa]; first | omega | (simp; done) | (simp; omega)); have wa_s3 : w.heap.size + 1 < wa.heap.size := (by rw [hwa]; first | omega | (simp; done) | (simp; omega)); have wa_c0 : wa.cell? ⟨p, 2, none⟩ = some (.slice (some ⟨g, 0, none⟩) n zc) := (by rw [hwa]; go_simp); have wa_c1 : wa.cell? ⟨w.heap.size + 1, 0, none⟩ = some (.int .i64 z.id) := (by rw [hwa]; go_simp); have wa_c2 : wa.cell? ⟨w.heap.size + 1, 1, none⟩ = some (.string z.fr) := (by rw [hwa]; go_simp); have wa_c3 : wa.cell? ⟨w.heap.size + 1, 2, none⟩ = some (.string z.to) := (by rw [hwa]; go_simp); have wa_c4 : wa.cell? ⟨w.heap.size + 1, 3, none⟩ = some (.int .i64 z.owner) := (by rw [hwa]; go_simp); have wa_c5 : wa.cell? ⟨w.heap.size + 1, 4, none⟩ = some (.int .i64 z.epoch) := (by rw [hwa]; go_simp); have wa_c6 : wa.cell? ⟨w.heap.size + 1, 5, none⟩ = some (.int .i64 z.pend) := (by rw [hwa]; go_simp); have wa_c7 : wa.cell? ⟨w.heap.size + 1, 6, none⟩ = some (.int .i64 z.tt) := (by rw [hwa]; go_simp); have wa_c8 : wa.cell? ⟨w.heap.size + 1, 7, none⟩ = some (.string z.key) := (by rw [hwa]; go_simp); have wa_c9 : wa.cell? ⟨w.heap.size + 1, 8, none⟩ = some (.int .i64 z.nw) := (by rw [hwa]; go_simp); have wa_b : Below w.heap.size w wa := (by rw [hwa]; exact (by repeat (first | with_reducible exact Below.refl _ _ | with_reducible assumption | with_reducible refine Below.drew ?_ | with_reducible refine below_drawn ?_ | with_reducible refine Below.alloc ?_ (by first | omega | (simp; done) | (simp; omega) | (simp at *; omega)) _ | with_reducible refine Below.setCell ?_ (by first | omega | (simp; done) | (simp; omega) | (simp at *; omega)) _ | with_reducible refine Below.trans ?_ (Below.mono (by assumption) (by first | omega | (simp; done) | (simp; omega) | (simp at *; omega)))))); clear hwa); (obtain ⟨xc, xf⟩ := bcell wa_b); (have a0 := (xc _ _ hg).trans r0); (have a1 := (xc _ _ hg).trans r1); (have a2 := (xc _ _ hg).trans r2); (have a3 := (xc _ _ hg).trans r3); (have a4 := (xc _ _ hg).trans r4); (have a5 := (xc _ _ hg).trans r5); (have a6 := (xc _ _ hg).trans r6); (have a7 := (xc _ _ hg).trans r7); (have a8 := (xc _ _ hg).trans r8); clear xc xf r0 r1 r2 r3 r4 r5 r6 r7 r8 c2; ((refine wp_region_gr (by kernel_rfl) (by kernel_rfl) ?_; (repeat (go_big_quiet_step (fail))); refine wpQuiet_nil ?_; intro _ hw'; obtain ⟨g1, hw''⟩ := hw'; subst hw'')); (have hgb := gr_below wa g1); (have hgs := gr_le wa g1); (have wa_le := wa_b.size); (have y0 : p < (gr wa g1).heap.size := (by omega)); (have y1 : g < (gr wa g1).heap.size := (by omega)); (have y2 : w.heap.size < (gr wa g1).heap.size := (by omega)); (have y3 : w.heap.size + 1 < (gr wa g1).heap.size := (by omega)); (go_wp2_with fail))
    go_ret
    exact chPost_no H.out rfl (wa_b.trans ((gr_below wa g1).mono (by omega)))
theorem done_any {W w : World} {L : List Th} {p g zc : Nat} {m : Mp} {ho : Option Addr} {hl hc : Nat} (h : St W w (thDir 76 W.heap.size p g zc m ho hl hc :: L)) (hm : m.zs.length ≤ 16) (hok : ∀ z ∈ m.zs, ZOk z) (i : Nat) (z : Zn) (hi : m.zs[i]? = some z) (c : Ch) :
    Calls Try.prog 42 #[.pointer (some ⟨p, 0, none⟩), .int .i64 i, .agg #[.int .i64 c.kind, .int .i64 c.zone, .int .i64 c.epoch, .int .i64 c.tt, .string c.key]] w (ChPost 76 W p m ho hl hc L (doneM m i z c)) := by
  have hz := hok z (List.mem_of_getElem? hi)
  unfold doneM
  by_cases h1 : z.epoch ≠ c.epoch ∨ 1099511627776 ≤ z.epoch
  · rw [if_pos h1]; exact done_no h i z hi c (.inr h1)
  · rw [if_neg h1]
    have h2 : z.epoch = c.epoch := by omega
    have h3 : z.epoch < 1099511627776 := by omega
    by_cases p1 : z.pend = 1
    · rw [if_pos p1]
      have hck : cutOk z.fr z.to z.key = true := by
        rcases hz.2.2.2.2 with h | h | h | h
        · omega
        · omega
        · exact h.2.2
        · omega
      exact done_split h hm i z hi hz.2.2.1 c p1 hck h2 h3
    · rw [if_neg p1]
      by_cases p2 : z.pend = 2
      · rw [if_pos p2]
        cases hy : m.zs[i + 1]? with
        | none =>
          rw [List.getElem?_eq_none_iff] at hy
          exact done_lone h i z hi hm hy c p2 h2 h3
        | some y =>
          have hyo := hok y (List.mem_of_getElem? hy)
          simp only
          by_cases h5 : y.id ≠ z.nw ∨ 1099511627776 ≤ max z.epoch y.epoch
          · rw [if_pos h5]
            exact done_other h hm i z y hi hy c p2 h2 h3 (by omega)
          · rw [if_neg h5]
            exact done_merge h hm i z y hi hy hz.2.2.1 hyo.2.2.1 c p2 h2 h3 (by omega) (by omega)
      · rw [if_neg p2]
        by_cases p3 : z.pend = 3
        · rw [if_pos p3]
          exact done_move h i z hi hz.2.2.1 c p3 h2 h3
        · rw [if_neg p3]
          exact done_no h i z hi c (.inl (by rcases hz.2.2.2.2 with h | h | h | h <;> omega))
end Go.Proofs.Ytobnibdeimiinaa
