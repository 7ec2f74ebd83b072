/- The contracts of the document's done (all kinds), of its change: what is done, what is aborted; of change as a whole. -/
import Derived.Test.YtobnibdeimiinaaRDn
import Derived.Test.YtobnibdeimiinaaRDs
import Derived.Test.YtobnibdeimiinaaRDm
import Derived.Test.YtobnibdeimiinaaRCs
import Derived.Test.YtobnibdeimiinaaRCm
import Derived.Test.YtobnibdeimiinaaRCv
namespace Go.Proofs.Ytobnibdeimiinaa
open Go.RowKit

theorem doneR_split {m : Mp} {i : Nat} {z : Zn} (h : z.pend = 1) : doneR m i z = some { m with zs := m.zs.take i ++ Zn.mk z.id z.fr z.key z.owner (z.epoch + 1) 0 0 z0 0 :: Zn.mk z.nw z.key z.to z.owner (z.epoch + 1) 0 0 z0 0 :: m.zs.drop (i + 1) } := by
  unfold doneR; rw [if_pos h]; rfl
theorem doneR_merge {m : Mp} {i : Nat} {z y : Zn} (h : z.pend = 2) (hy : m.zs[i + 1]? = some y) (hf : findZ m.zs z.nw = some (i + 1)) : doneR m i z = some { m with zs := m.zs.take i ++ joinZ z y :: m.zs.drop (i + 2) } := by
  unfold doneR; rw [if_neg (by omega), if_pos h, hy]
  simp [hf]
theorem doneR_none {m : Mp} {i : Nat} {z : Zn} (h : z.pend = 2) (hf : findZ m.zs z.nw ≠ some (i + 1)) : doneR m i z = none := by
  unfold doneR; rw [if_neg (by omega), if_pos h]
  split
  · rfl
  · rw [if_pos hf]
theorem doneR_move {m : Mp} {i : Nat} {z : Zn} (h : z.pend = 3) : doneR m i z = some { m with zs := m.zs.set i { endedZ z (z.epoch + 1) with owner := z.tt } } := by
  unfold doneR; rw [if_neg (by omega), if_neg (by omega), if_pos h]
theorem doneR_free {m : Mp} {i : Nat} {z : Zn} (h : z.pend = 0) : doneR m i z = none := by
  unfold doneR; rw [if_neg (by omega), if_neg (by omega), if_neg (by omega)]
set_option maxRecDepth 20000 in
set_option maxHeartbeats 4000000 in
theorem rdone_any {W w : World} {L : List Th} {p g zc : Nat} {m : Mp} {ho : Option Addr} {hl hc : Nat} (h : St W w (thDir 49 W.heap.size p g zc m ho hl hc :: L)) (hm : m.zs.length ≤ 16) (hok : ∀ z ∈ m.zs, ZOk z) (i : Nat) (z : Zn) (hi : m.zs[i]? = some z) (h3 : z.epoch < 1099511627776) :
    Calls Try.prog 87 #[.pointer (some ⟨p, 0, none⟩), .int .i64 i] w (ChPost 49 W p m ho hl hc L (doneR m i z)) := by
  obtain ⟨-, -, o3, -, o5⟩ := hok z (List.mem_of_getElem? hi)
  rcases o5 with ⟨q, -⟩ | ⟨q, -⟩ | ⟨q, -, q2⟩ | ⟨q, -⟩
  · obtain ⟨hp, c0, c1, c2, c3, hf⟩ := dir_cells h.head
    obtain ⟨hil, hie⟩ := List.getElem?_eq_some_iff.1 hi
    have hat := h.head.2.1.at
    obtain ⟨d0, d1, d2, d3, d4, d5, d6, d7, d8⟩ := hat.nine i hil z hie.symm
    have H := Lib.hid h
    have HR := Lib.hid (doneR_free (m := m) (i := i) q)
    have e1 : (z.pend == 1) = false := by rw [q]; rfl
    have e2 : (z.pend == 2) = false := by rw [q]; rfl
    have e3 : (z.pend == 3) = false := by rw [q]; rfl
    obtain ⟨n, hn⟩ : ∃ n, n = m.zs.length := ⟨_, rfl⟩
    rw [← hn] at hil hm c2
    clear q hi hie hat hf c0 c1 c3 hn hok h
    go_enter Try.func87, Try.ntmps87
    go_wp2_with fail
    go_ret
    exact chPost_no H.out HR.out (by repeat (first | with_reducible exact Below.refl _ _ | with_reducible assumption | with_reducible refine Below.drew ?_ | with_reducible refine below_drawn ?_ | with_reducible refine Below.alloc ?_ (by first | omega | (simp; done) | (simp; omega) | (simp at *; omega)) _ | with_reducible refine Below.setCell ?_ (by first | omega | (simp; done) | (simp; omega) | (simp at *; omega)) _ | with_reducible refine Below.trans ?_ (Below.mono (by assumption) (by first | omega | (simp; done) | (simp; omega) | (simp at *; omega)))))
  · rw [doneR_move q]; exact rdone_move h i z hi o3 q h3
  · rw [doneR_split q]; exact rdone_split h hm i z hi o3 q h3 q2
  · by_cases hf : findZ m.zs z.nw = some (i + 1)
    · obtain ⟨y, hy, -, -⟩ := find_some hf
      obtain ⟨-, -, p3, p4, -⟩ := hok y (List.mem_of_getElem? hy)
      rw [doneR_merge q hy hf]
      exact rdone_merge h hm i z y hi (i + 1) rfl hy o3 p3 q h3 p4 hf
    · obtain ⟨hp, c0, c1, c2, c3, hfz⟩ := dir_cells h.head
      obtain ⟨hil, hie⟩ := List.getElem?_eq_some_iff.1 hi
      have hat := h.head.2.1.at
      have hg := hat.lt
      obtain ⟨d0, d1, d2, d3, d4, d5, d6, d7, d8⟩ := hat.nine i hil z hie.symm
      obtain ⟨k, hk⟩ : ∃ k, k = fz m.zs z.nw := ⟨_, rfl⟩
      have e8 : (k != (i : Int) + 1) = true := by
        rw [bne_iff_ne]
        intro e
        rw [hk, fz] at e
        split at e
        · omega
        · rename_i j hj
          exact hf (by rw [hj]; congr 1; omega)
      have hfd := fun (w3 : World) (hb : Below w.heap.size w w3) => rfind_any (zc := zc) (hat.grow hb) (by omega) z.nw
      rw [← hk] at hfd
      have H := Lib.hid h
      have HR := Lib.hid (doneR_none (m := m) (i := i) q hf)
      have e1 : (z.pend == 1) = false := by rw [q]; rfl
      have e2 : (z.pend == 2) = true := by rw [q]; rfl
      obtain ⟨n, hn⟩ : ∃ n, n = m.zs.length := ⟨_, rfl⟩
      rw [← hn] at hil hm c2 hfd
      have Hfd := Lib.hid hfd
      have x1 : IntKind.i64.wrap ((i : Int) + 1) = (i : Int) + 1 := by rw [IntKind.wrap_i64]; omega
      clear q hi hie hat hfz c0 c1 c3 hn hok h hf hfd hk
      go_enter Try.func87, Try.ntmps87
      go_wp2_with fail
      (refine calls_name fun wa hwa => ?_; have wa_s0 : p < wa.heap.size := (by rw [hwa]; first | omega | (simp; done) | (simp; omega)); have wa_s1 : g < wa.heap.size := (by rw [hwa]; first | omega | (simp; done) | (simp; omega)); have wa_b : Below w.heap.size w wa := (by rw [hwa]; exact (by repeat (first | with_reducible exact Below.refl _ _ | with_reducible assumption | with_reducible refine Below.drew ?_ | with_reducible refine below_drawn ?_ | with_reducible refine Below.alloc ?_ (by first | omega | (simp; done) | (simp; omega) | (simp at *; omega)) _ | with_reducible refine Below.setCell ?_ (by first | omega | (simp; done) | (simp; omega) | (simp at *; omega)) _ | with_reducible refine Below.trans ?_ (Below.mono (by assumption) (by first | omega | (simp; done) | (simp; omega) | (simp at *; omega)))))); clear hwa)
      refine (Hfd.out _ wa_b).mono ?_
      (rintro e w1 ⟨rfl, w1_h⟩; obtain ⟨w1_hc, w1_hf⟩ := bcell w1_h; have w1_z := w1_h.size; have w1_b := wa_b.trans (w1_h.mono (by have := wa_b.size; omega)); have w1_le := w1_b.size; clear w1_h)
      go_wp2_with fail
      go_ret
      exact chPost_no H.out HR.out w1_b
set_option maxRecDepth 20000 in
set_option maxHeartbeats 4000000 in
theorem rdoneC_any {W w : World} {L : List Th} {p g zc : Nat} {m : Mp} {ho : Option Addr} {hl hc : Nat} (h : St W w (thDir 49 W.heap.size p g zc m ho hl hc :: L)) (hm : m.zs.length ≤ 16) (hok : ∀ z ∈ m.zs, ZOk z) (i : Nat) (z : Zn) (hi : m.zs[i]? = some z) (c : Ch) (hk : c.kind = 4) :
    Calls Try.prog 50 #[.pointer (some ⟨p, 0, none⟩), .agg #[.int .i64 c.kind, .int .i64 c.zone, .int .i64 c.epoch, .int .i64 c.tt, .string c.key], .int .i64 i] w (ChPost 49 W p m ho hl hc L (if z.epoch ≠ c.epoch ∨ 1099511627776 ≤ z.epoch then none else doneR m i z)) := by
  obtain ⟨hp, c0, c1, c2, c3, hf⟩ := dir_cells h.head
  obtain ⟨hil, hie⟩ := List.getElem?_eq_some_iff.1 hi
  have hat := h.head.2.1.at
  have hg := hat.lt
  obtain ⟨d0, d1, d2, d3, d4, d5, d6, d7, d8⟩ := hat.nine i hil z hie.symm
  have H := Lib.hid h
  obtain ⟨n, hn⟩ : ∃ n, n = m.zs.length := ⟨_, rfl⟩
  obtain ⟨r, hr⟩ : ∃ r, r = (if z.epoch ≠ c.epoch ∨ 1099511627776 ≤ z.epoch then none else doneR m i z) := ⟨_, rfl⟩
  rw [← hr]
  rw [← hn] at hil c2
  have k1 : (c.kind == 1) = false := by rw [hk]; rfl
  have k2 : (c.kind == 2) = false := by rw [hk]; rfl
  have k3 : (c.kind == 3) = false := by rw [hk]; rfl
  have k4 : (c.kind == 4) = true := by rw [hk]; rfl
  have Hm := Lib.hid hm
  have Hok := Lib.hid hok
  have Hi := Lib.hid hi
  clear hm hok hi hie hat hn hk hf c0 c1 c3 h
  by_cases h2 : z.epoch = c.epoch
  · have e2 : (z.epoch != c.epoch) = false := by rw [bne_eq_false_iff_eq]; exact h2
    by_cases h3 : z.epoch < 1099511627776
    · have e3 : decide (1099511627776 ≤ z.epoch) = false := by rw [decide_eq_false_iff_not]; omega
      rw [if_neg (by simp only [not_or, Decidable.not_not]; omega)] at hr
      have Hr := Lib.hid hr
      have H3 := Lib.hid h3
      clear h2 hr h3
      go_enter Try.func50, Try.ntmps50
      go_wp2_with fail
      refine calls_name fun wa hwa => ?_
      have hb : Below w.heap.size w wa := by rw [hwa]; exact (by repeat (first | with_reducible exact Below.refl _ _ | with_reducible assumption | with_reducible refine Below.drew ?_ | with_reducible refine below_drawn ?_ | with_reducible refine Below.alloc ?_ (by first | omega | (simp; done) | (simp; omega) | (simp at *; omega)) _ | with_reducible refine Below.setCell ?_ (by first | omega | (simp; done) | (simp; omega) | (simp at *; omega)) _ | with_reducible refine Below.trans ?_ (Below.mono (by assumption) (by first | omega | (simp; done) | (simp; omega) | (simp at *; omega)))))
      clear hwa
      refine (rdone_any (H.out.grow hb) Hm.out Hok.out i z Hi.out H3.out).mono ?_
      rw [← Hr.out]
      rintro e w' ⟨g', zc', rfl, hS⟩
      have HS := Lib.hid hS
      clear hS
      cases r with
      | none => (go_wp2_with fail; go_ret; exact ⟨g', zc', rfl, HS.out⟩)
      | some x => (go_wp2_with fail; go_ret; exact ⟨g', zc', rfl, HS.out⟩)
    · have e3 : decide (1099511627776 ≤ z.epoch) = true := by rw [decide_eq_true_eq]; omega
      rw [if_pos (by right; omega)] at hr
      have Hr := Lib.hid hr
      clear h2 hr h3
      go_enter Try.func50, Try.ntmps50
      go_wp2_with fail
      go_ret
      exact chPost_no H.out Hr.out (by repeat (first | with_reducible exact Below.refl _ _ | with_reducible assumption | with_reducible refine Below.drew ?_ | with_reducible refine below_drawn ?_ | with_reducible refine Below.alloc ?_ (by first | omega | (simp; done) | (simp; omega) | (simp at *; omega)) _ | with_reducible refine Below.setCell ?_ (by first | omega | (simp; done) | (simp; omega) | (simp at *; omega)) _ | with_reducible refine Below.trans ?_ (Below.mono (by assumption) (by first | omega | (simp; done) | (simp; omega) | (simp at *; omega)))))
  · have e2 : (z.epoch != c.epoch) = true := by rw [bne_iff_ne]; exact h2
    rw [if_pos (by left; exact h2)] at hr
    have Hr := Lib.hid hr
    clear h2 hr
    go_enter Try.func50, Try.ntmps50
    go_wp2_with fail
    go_ret
    exact chPost_no H.out Hr.out (by repeat (first | with_reducible exact Below.refl _ _ | with_reducible assumption | with_reducible refine Below.drew ?_ | with_reducible refine below_drawn ?_ | with_reducible refine Below.alloc ?_ (by first | omega | (simp; done) | (simp; omega) | (simp at *; omega)) _ | with_reducible refine Below.setCell ?_ (by first | omega | (simp; done) | (simp; omega) | (simp at *; omega)) _ | with_reducible refine Below.trans ?_ (Below.mono (by assumption) (by first | omega | (simp; done) | (simp; omega) | (simp at *; omega)))))
set_option maxRecDepth 20000 in
set_option maxHeartbeats 4000000 in
theorem rabort_any {W w : World} {L : List Th} {p g zc : Nat} {m : Mp} {ho : Option Addr} {hl hc : Nat} (h : St W w (thDir 49 W.heap.size p g zc m ho hl hc :: L)) (i : Nat) (z : Zn) (hi : m.zs[i]? = some z) (hz : 1 ≤ z.epoch) (c : Ch) (hk : c.kind ≠ 1 ∧ c.kind ≠ 2 ∧ c.kind ≠ 3 ∧ c.kind ≠ 4) :
    Calls Try.prog 50 #[.pointer (some ⟨p, 0, none⟩), .agg #[.int .i64 c.kind, .int .i64 c.zone, .int .i64 c.epoch, .int .i64 c.tt, .string c.key], .int .i64 i] w (ChPost 49 W p m ho hl hc L (abortM m i z c)) := by
  obtain ⟨hp, c0, c1, c2, c3, hf⟩ := dir_cells h.head
  obtain ⟨hil, hie⟩ := List.getElem?_eq_some_iff.1 hi
  have hat := h.head.2.1.at
  have hg := hat.lt
  obtain ⟨d0, d1, d2, d3, d4, d5, d6, d7, d8⟩ := hat.nine i hil z hie.symm
  have hfg : ∀ j, w.frozen? ⟨g, j, none⟩ = false := h.head.2.1.frozen
  have H := Lib.hid h
  obtain ⟨n, hn⟩ : ∃ n, n = m.zs.length := ⟨_, rfl⟩
  rw [← hn] at hil c2
  have Hn := Lib.hid hn
  have Hi := Lib.hid hi
  obtain ⟨j1, j2, j3, j4⟩ := hk
  have k1 : (c.kind == 1) = false := by rw [beq_eq_false_iff_ne]; exact j1
  have k2 : (c.kind == 2) = false := by rw [beq_eq_false_iff_ne]; exact j2
  have k3 : (c.kind == 3) = false := by rw [beq_eq_false_iff_ne]; exact j3
  have k4 : (c.kind == 4) = false := by rw [beq_eq_false_iff_ne]; exact j4
  clear hat hn hi hie h hf c0 c1 c3 j1 j2 j3 j4
  by_cases h1 : z.pend = 3
  · have e1 : (z.pend != 3) = false := by rw [h1]; rfl
    by_cases h2 : z.epoch = c.epoch
    · have e2 : (z.epoch != c.epoch) = false := by rw [bne_eq_false_iff_eq]; exact h2
      by_cases h3 : z.epoch < 1099511627776
      · have e3 : decide (1099511627776 ≤ z.epoch) = false := by rw [decide_eq_false_iff_not]; omega
        have hr : abortM m i z c = some { m with zs := m.zs.set i (endedZ z (z.epoch + 1)) } := by unfold abortM; rw [if_neg (by omega)]
        rw [hr]
        clear h1 h2 hr
        go_enter Try.func50, Try.ntmps50
        go_wp2_with fail
        (refine calls_name fun wa hwa => ?_; have wa_s0 : p < wa.heap.size := (by rw [hwa]; first | omega | (simp; done) | (simp; omega)); have wa_s1 : g < wa.heap.size := (by rw [hwa]; first | omega | (simp; done) | (simp; omega)); have wa_s2 : w.heap.size + 1 < wa.heap.size := (by rw [hwa]; first | omega | (simp; done) | (simp; omega)); have wa_c0 : wa.cell? ⟨w.heap.size + 1, 4, none⟩ = some (.int .i64 z.epoch) := (by rw [hwa]; go_simp); have wa_c1 : wa.cell? ⟨g, i * 9, none⟩ = some (.int .i64 z.id) := (by rw [hwa]; go_simp); have wa_f1 : wa.frozen? ⟨g, i * 9, none⟩ = false := (by rw [hwa]; go_simp); have wa_c2 : wa.cell? ⟨g, i * 9 + 1, none⟩ = some (.string z.fr) := (by rw [hwa]; go_simp); have wa_f2 : wa.frozen? ⟨g, i * 9 + 1, none⟩ = false := (by rw [hwa]; go_simp); have wa_c3 : wa.cell? ⟨g, i * 9 + 2, none⟩ = some (.string z.to) := (by rw [hwa]; go_simp); have wa_f3 : wa.frozen? ⟨g, i * 9 + 2, none⟩ = false := (by rw [hwa]; go_simp); have wa_c4 : wa.cell? ⟨g, i * 9 + 3, none⟩ = some (.int .i64 z.owner) := (by rw [hwa]; go_simp); have wa_f4 : wa.frozen? ⟨g, i * 9 + 3, none⟩ = false := (by rw [hwa]; go_simp); have wa_c5 : wa.cell? ⟨g, i * 9 + 4, none⟩ = some (.int .i64 z.epoch) := (by rw [hwa]; go_simp); have wa_f5 : wa.frozen? ⟨g, i * 9 + 4, none⟩ = false := (by rw [hwa]; go_simp); have wa_c6 : wa.cell? ⟨g, i * 9 + 5, none⟩ = some (.int .i64 z.pend) := (by rw [hwa]; go_simp); have wa_f6 : wa.frozen? ⟨g, i * 9 + 5, none⟩ = false := (by rw [hwa]; go_simp); have wa_c7 : wa.cell? ⟨g, i * 9 + 6, none⟩ = some (.int .i64 z.tt) := (by rw [hwa]; go_simp); have wa_f7 : wa.frozen? ⟨g, i * 9 + 6, none⟩ = false := (by rw [hwa]; go_simp); have wa_c8 : wa.cell? ⟨g, i * 9 + 7, none⟩ = some (.string z.key) := (by rw [hwa]; go_simp); have wa_f8 : wa.frozen? ⟨g, i * 9 + 7, none⟩ = false := (by rw [hwa]; go_simp); have wa_c9 : wa.cell? ⟨g, i * 9 + 8, none⟩ = some (.int .i64 z.nw) := (by rw [hwa]; go_simp); have wa_f9 : wa.frozen? ⟨g, i * 9 + 8, none⟩ = false := (by rw [hwa]; go_simp); have wa_b : Below w.heap.size w wa := (by rw [hwa]; exact (by repeat (first | with_reducible exact Below.refl _ _ | with_reducible assumption | with_reducible refine Below.drew ?_ | with_reducible refine below_drawn ?_ | with_reducible refine Below.alloc ?_ (by first | omega | (simp; done) | (simp; omega) | (simp at *; omega)) _ | with_reducible refine Below.setCell ?_ (by first | omega | (simp; done) | (simp; omega) | (simp at *; omega)) _ | with_reducible refine Below.trans ?_ (Below.mono (by assumption) (by first | omega | (simp; done) | (simp; omega) | (simp at *; omega)))))); clear hwa)
        clear d0 d1 d2 d3 d4 d5 d6 d7 d8 c2 e1 e2 e3 hfg
        refine (free_any z _).mono ?_
        (rintro e w1 ⟨rfl, w1_h⟩; obtain ⟨w1_hc, w1_hf⟩ := bcell w1_h; have w1_z := w1_h.size; have w1_b := wa_b.trans (w1_h.mono (by have := wa_b.size; omega)); have w1_le := w1_b.size; have w1_s0 : p < w1.heap.size := (by omega); have w1_s1 : g < w1.heap.size := (by omega); have w1_s2 : w.heap.size + 1 < w1.heap.size := (by omega); clear w1_h)
        have q7 : w.heap.size + 1 ≠ g := by omega
        have q8 : g ≠ w.heap.size + 1 := by omega
        have HW := Lib.hid (H.out.grow w1_b)
        have hfg1 : ∀ j, w1.frozen? ⟨g, j, none⟩ = false := HW.out.head.2.1.frozen
        have ew : IntKind.i64.wrap (z.epoch + 1) = z.epoch + 1 := by rw [IntKind.wrap_i64]; omega
        go_wp2_with fail
        go_ret
        have h9 := HW.out.dirNine i (by rw [← Hn.out]; exact hil) (endedZ z z.epoch)
        have h10 := h9.dirAt i (endedZ z z.epoch) (by show (m.zs.set i _)[i]? = _; exact set_again Hi.out) 4 (by decide) (.int .i64 (z.epoch + 1)) (endedZ z (z.epoch + 1)) rfl
        simp only [List.set_set] at h10
        exact chPost_yes rfl h10
      · have e3 : decide (1099511627776 ≤ z.epoch) = true := by rw [decide_eq_true_eq]; omega
        have HR : Hid (abortM m i z c = none) := by unfold abortM; rw [if_pos (by omega)]; rfl
        clear h1 h2 h3
        (go_enter Try.func50, Try.ntmps50; (go_wp2_with fail); go_ret; exact chPost_no H.out HR.out (by repeat (first | with_reducible exact Below.refl _ _ | with_reducible assumption | with_reducible refine Below.drew ?_ | with_reducible refine below_drawn ?_ | with_reducible refine Below.alloc ?_ (by first | omega | (simp; done) | (simp; omega) | (simp at *; omega)) _ | with_reducible refine Below.setCell ?_ (by first | omega | (simp; done) | (simp; omega) | (simp at *; omega)) _ | with_reducible refine Below.trans ?_ (Below.mono (by assumption) (by first | omega | (simp; done) | (simp; omega) | (simp at *; omega))))))
    · have e2 : (z.epoch != c.epoch) = true := by rw [bne_iff_ne]; exact h2
      have HR : Hid (abortM m i z c = none) := by unfold abortM; rw [if_pos (by omega)]; rfl
      clear h1 h2
      (go_enter Try.func50, Try.ntmps50; (go_wp2_with fail); go_ret; exact chPost_no H.out HR.out (by repeat (first | with_reducible exact Below.refl _ _ | with_reducible assumption | with_reducible refine Below.drew ?_ | with_reducible refine below_drawn ?_ | with_reducible refine Below.alloc ?_ (by first | omega | (simp; done) | (simp; omega) | (simp at *; omega)) _ | with_reducible refine Below.setCell ?_ (by first | omega | (simp; done) | (simp; omega) | (simp at *; omega)) _ | with_reducible refine Below.trans ?_ (Below.mono (by assumption) (by first | omega | (simp; done) | (simp; omega) | (simp at *; omega))))))
  · have e1 : (z.pend != 3) = true := by rw [bne_iff_ne]; exact h1
    have HR : Hid (abortM m i z c = none) := by unfold abortM; rw [if_pos (by omega)]; rfl
    clear h1
    (go_enter Try.func50, Try.ntmps50; (go_wp2_with fail); go_ret; exact chPost_no H.out HR.out (by repeat (first | with_reducible exact Below.refl _ _ | with_reducible assumption | with_reducible refine Below.drew ?_ | with_reducible refine below_drawn ?_ | with_reducible refine Below.alloc ?_ (by first | omega | (simp; done) | (simp; omega) | (simp at *; omega)) _ | with_reducible refine Below.setCell ?_ (by first | omega | (simp; done) | (simp; omega) | (simp at *; omega)) _ | with_reducible refine Below.trans ?_ (Below.mono (by assumption) (by first | omega | (simp; done) | (simp; omega) | (simp at *; omega))))))
theorem rchange_any {W w : World} {L : List Th} {p g zc : Nat} {m : Mp} {ho : Option Addr} {hc : Nat} {hosts : List Int} (h : St W w (thDir 49 W.heap.size p g zc m ho hosts.length hc :: L)) (hI : Inv m) (hh : IAtD w ho hosts) (hhm : hosts.length ≤ 1000) (i : Nat) (z : Zn) (hi : m.zs[i]? = some z) (c : Ch) :
    Calls Try.prog 50 #[.pointer (some ⟨p, 0, none⟩), .agg #[.int .i64 c.kind, .int .i64 c.zone, .int .i64 c.epoch, .int .i64 c.tt, .string c.key], .int .i64 i] w (ChPost 49 W p m ho hosts.length hc L (changeR hosts m i z c)) := by
  have hz := (hI.ok z (List.mem_of_getElem? hi)).2.2.1
  unfold changeR
  by_cases k1 : c.kind = 1
  · rw [if_pos k1]; exact rsplit_any h hI.len hI.next i z hi c k1
  · rw [if_neg k1]
    by_cases k2 : c.kind = 2
    · rw [if_pos k2]; exact rmerge_any h hI.len i z hi c k2
    · rw [if_neg k2]
      by_cases k3 : c.kind = 3
      · rw [if_pos k3]; exact rmove_any h hI.len hh hhm i z hi c k3
      · rw [if_neg k3]
        by_cases k4 : c.kind = 4
        · rw [if_pos k4]; exact rdoneC_any h hI.len hI.ok i z hi c k4
        · rw [if_neg k4]; exact rabort_any h i z hi hz c ⟨k1, k2, k3, k4⟩
end Go.Proofs.Ytobnibdeimiinaa
