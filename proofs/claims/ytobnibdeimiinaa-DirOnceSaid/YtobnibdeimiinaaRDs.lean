/- The contract of the document's done: a split that is done. -/
import Derived.Test.YtobnibdeimiinaaRTh
import Derived.Test.YtobnibdeimiinaaRd
import Derived.Test.YtobnibdeimiinaaPn
import Derived.Deep.DeepCutAuto
import Derived.Deep.AppendLies
namespace Go.Proofs.Ytobnibdeimiinaa
open Go.RowKit

set_option maxRecDepth 20000 in
set_option maxHeartbeats 4000000 in
theorem rdone_split {W w : World} {L : List Th} {p g zc : Nat} {m : Mp} {ho : Option Addr} {hl hc : Nat} (h : St W w (thDir 49 W.heap.size p g zc m ho hl hc :: L)) (hm : m.zs.length ≤ 16) (i : Nat) (z : Zn) (hi : m.zs[i]? = some z) (hz : 1 ≤ z.epoch) (h1 : z.pend = 1) (h3 : z.epoch < 1099511627776) (hok : cutOk z.fr z.to z.key = true) :
    Calls Try.prog 87 #[.pointer (some ⟨p, 0, none⟩), .int .i64 i] w (ChPost 49 W p m ho hl hc L (some { m with zs := m.zs.take i ++ Zn.mk z.id z.fr z.key z.owner (z.epoch + 1) 0 0 z0 0 :: Zn.mk z.nw z.key z.to z.owner (z.epoch + 1) 0 0 z0 0 :: m.zs.drop (i + 1) })) := by
  obtain ⟨hp, c0, c1, c2, c3, hf⟩ := dir_cells h.head
  obtain ⟨hil, hie⟩ := List.getElem?_eq_some_iff.1 hi
  have hat := h.head.2.1.at
  have hg := hat.lt
  obtain ⟨d0, d1, d2, d3, d4, d5, d6, d7, d8⟩ := hat.nine i hil z hie.symm
  have H := Lib.hid h
  obtain ⟨n, hn⟩ : ∃ n, n = m.zs.length := ⟨_, rfl⟩
  rw [← hn] at hil hm c2
  have hcut := fun w => satrapyref12_cut z.fr z.to z.key w
  rw [hok] at hcut
  simp only [sel, if_true] at hcut
  have Hcut := Lib.hid hcut
  have Hn := Lib.hid hn
  have Hi := Lib.hid hi
  clear hat hn hi hie h c0 c1 c3 hf hok hcut
  have e1 : (z.pend == 1) = true := by rw [h1]; rfl
  clear h1
  go_enter Try.func87, Try.ntmps87
  go_wp2_with fail
  (refine calls_name fun wa hwa => ?_; have wa_s0 : p < wa.heap.size := (by rw [hwa]; first | omega | (simp; done) | (simp; omega)); have wa_s1 : g < wa.heap.size := (by rw [hwa]; first | omega | (simp; done) | (simp; omega)); have wa_s2 : w.heap.size < wa.heap.size := (by rw [hwa]; first | omega | (simp; done) | (simp; omega)); have wa_c0 : wa.cell? ⟨w.heap.size, 0, none⟩ = some (.int .i64 z.id) := (by rw [hwa]; go_simp); have wa_c1 : wa.cell? ⟨w.heap.size, 1, none⟩ = some (.string z.fr) := (by rw [hwa]; go_simp); have wa_c2 : wa.cell? ⟨w.heap.size, 2, none⟩ = some (.string z.to) := (by rw [hwa]; go_simp); have wa_c3 : wa.cell? ⟨w.heap.size, 3, none⟩ = some (.int .i64 z.owner) := (by rw [hwa]; go_simp); have wa_c4 : wa.cell? ⟨w.heap.size, 4, none⟩ = some (.int .i64 z.epoch) := (by rw [hwa]; go_simp); have wa_c5 : wa.cell? ⟨w.heap.size, 5, none⟩ = some (.int .i64 z.pend) := (by rw [hwa]; go_simp); have wa_c6 : wa.cell? ⟨w.heap.size, 6, none⟩ = some (.int .i64 z.tt) := (by rw [hwa]; go_simp); have wa_c7 : wa.cell? ⟨w.heap.size, 7, none⟩ = some (.string z.key) := (by rw [hwa]; go_simp); have wa_c8 : wa.cell? ⟨w.heap.size, 8, none⟩ = some (.int .i64 z.nw) := (by rw [hwa]; go_simp); have wa_b : Below w.heap.size w wa := (by rw [hwa]; exact (by repeat (first | with_reducible exact Below.refl _ _ | with_reducible assumption | with_reducible refine Below.drew ?_ | with_reducible refine below_drawn ?_ | with_reducible refine Below.alloc ?_ (by first | omega | (simp; done) | (simp; omega) | (simp at *; omega)) _ | with_reducible refine Below.setCell ?_ (by first | omega | (simp; done) | (simp; omega) | (simp at *; omega)) _ | with_reducible refine Below.trans ?_ (Below.mono (by assumption) (by first | omega | (simp; done) | (simp; omega) | (simp at *; omega)))))); clear hwa)
  clear d0 d1 d2 d3 d4 d5 d6 d7 d8
  refine (Hcut.out _).mono ?_
  (rintro e w1 ⟨rfl, w1_h⟩; obtain ⟨w1_hc, w1_hf⟩ := bcell w1_h; have w1_z := w1_h.size; have w1_b := wa_b.trans (w1_h.mono (by have := wa_b.size; omega)); have w1_le := w1_b.size; have w1_s0 : p < w1.heap.size := (by omega); have w1_s1 : g < w1.heap.size := (by omega); have w1_s2 : w.heap.size < w1.heap.size := (by omega); clear w1_h)
  go_wp2_with fail
  (refine calls_name fun wb hwb => ?_; have wb_s0 : p < wb.heap.size := (by rw [hwb]; first | omega | (simp; done) | (simp; omega)); have wb_s1 : g < wb.heap.size := (by rw [hwb]; first | omega | (simp; done) | (simp; omega)); have wb_s2 : w.heap.size < wb.heap.size := (by rw [hwb]; first | omega | (simp; done) | (simp; omega)); have wb_s3 : w1.heap.size < wb.heap.size := (by rw [hwb]; first | omega | (simp; done) | (simp; omega)); have wb_s4 : w1.heap.size + 1 < wb.heap.size := (by rw [hwb]; first | omega | (simp; done) | (simp; omega)); have wb_c0 : wb.cell? ⟨w.heap.size, 4, none⟩ = some (.int .i64 z.epoch) := (by rw [hwb]; go_simp); have wb_c1 : wb.cell? ⟨w.heap.size, 7, none⟩ = some (.string z.key) := (by rw [hwb]; go_simp); have wb_c2 : wb.cell? ⟨w.heap.size, 8, none⟩ = some (.int .i64 z.nw) := (by rw [hwb]; go_simp); have wb_c3 : wb.cell? ⟨w1.heap.size, 0, none⟩ = some (.string z.fr) := (by rw [hwb]; go_simp); have wb_c4 : wb.cell? ⟨w1.heap.size, 1, none⟩ = some (.string z.key) := (by rw [hwb]; go_simp); have wb_c5 : wb.cell? ⟨w1.heap.size + 1, 0, none⟩ = some (.string z.key) := (by rw [hwb]; go_simp); have wb_c6 : wb.cell? ⟨w1.heap.size + 1, 1, none⟩ = some (.string z.to) := (by rw [hwb]; go_simp); have wb_b : Below w.heap.size w wb := (by rw [hwb]; exact (by repeat (first | with_reducible exact Below.refl _ _ | with_reducible assumption | with_reducible refine Below.drew ?_ | with_reducible refine below_drawn ?_ | with_reducible refine Below.alloc ?_ (by first | omega | (simp; done) | (simp; omega) | (simp at *; omega)) _ | with_reducible refine Below.setCell ?_ (by first | omega | (simp; done) | (simp; omega) | (simp at *; omega)) _ | with_reducible refine Below.trans ?_ (Below.mono (by assumption) (by first | omega | (simp; done) | (simp; omega) | (simp at *; omega)))))); clear hwb)
  obtain ⟨A, hA⟩ : ∃ A, A = w1.heap.size := ⟨_, rfl⟩
  have hAw : w.heap.size < A := by omega
  rw [← hA] at wb_s3 wb_s4 wb_c3 wb_c4 wb_c5 wb_c6 ⊢
  have wb_le := wb_b.size
  clear hA w1_hc w1_hf w1_b w1_s0 w1_s1 w1_s2 w1_z w1_le wa_c0 wa_c1 wa_c2 wa_c3 wa_c4 wa_c5 wa_c6 wa_c7 wa_c8 wa_b wa_s0 wa_s1 wa_s2
  refine (free_any z _).mono ?_
  (rintro e w2 ⟨rfl, w2_h⟩; obtain ⟨w2_hc, w2_hf⟩ := bcell w2_h; have w2_z := w2_h.size; have w2_b := wb_b.trans (w2_h.mono (by have := wb_b.size; omega)); have w2_le := w2_b.size; have w2_s0 : p < w2.heap.size := (by omega); have w2_s1 : g < w2.heap.size := (by omega); have w2_s2 : w.heap.size < w2.heap.size := (by omega); have w2_s3 : A < w2.heap.size := (by omega); have w2_s4 : A + 1 < w2.heap.size := (by omega); clear w2_h)
  go_upto_region 8 with fail
  obtain ⟨X, hX⟩ : ∃ X, X = w2.heap.size := ⟨_, rfl⟩
  have hXA : A + 1 < X := by omega
  rw [← hX]
  have HX := Lib.hid hX
  have hX1 : X ≤ w2.heap.size := by omega
  clear hX wb_b
  go_cut [10] (fun s10 wx => s10 = .pointer (some ⟨X, 0, none⟩) ∧ Hid (ZObj wx X (Zn.mk z.id z.fr z.key z.owner (z.epoch + 1) 0 0 z0 0)) ∧ Hid (Below w.heap.size w wx) ∧ wx.cell? ⟨w.heap.size, 7, none⟩ = some (.string z.key) ∧ wx.cell? ⟨w.heap.size, 8, none⟩ = some (.int .i64 z.nw) ∧ wx.cell? ⟨A + 1, 0, none⟩ = some (.string z.key) ∧ wx.cell? ⟨A + 1, 1, none⟩ = some (.string z.to))
  case first =>
    (refine wp_name fun wd hwd => ?_; have wd_s0 : g < wd.heap.size := (by rw [hwd]; first | omega | (simp; done) | (simp; omega)); have wd_s1 : w.heap.size < wd.heap.size := (by rw [hwd]; first | omega | (simp; done) | (simp; omega)); have wd_s2 : A < wd.heap.size := (by rw [hwd]; first | omega | (simp; done) | (simp; omega)); have wd_s3 : A + 1 < wd.heap.size := (by rw [hwd]; first | omega | (simp; done) | (simp; omega)); have wd_s4 : X < wd.heap.size := (by rw [hwd]; first | omega | (simp; done) | (simp; omega)); have wd_c0 : wd.cell? ⟨w.heap.size, 4, none⟩ = some (.int .i64 z.epoch) := (by rw [hwd]; go_simp); have wd_c1 : wd.cell? ⟨w.heap.size, 7, none⟩ = some (.string z.key) := (by rw [hwd]; go_simp); have wd_c2 : wd.cell? ⟨w.heap.size, 8, none⟩ = some (.int .i64 z.nw) := (by rw [hwd]; go_simp); have wd_c3 : wd.cell? ⟨A, 0, none⟩ = some (.string z.fr) := (by rw [hwd]; go_simp); have wd_c4 : wd.cell? ⟨A, 1, none⟩ = some (.string z.key) := (by rw [hwd]; go_simp); have wd_c5 : wd.cell? ⟨A + 1, 0, none⟩ = some (.string z.key) := (by rw [hwd]; go_simp); have wd_c6 : wd.cell? ⟨A + 1, 1, none⟩ = some (.string z.to) := (by rw [hwd]; go_simp); have wd_b : Below w.heap.size w wd := (by rw [hwd]; exact (by repeat (first | with_reducible exact Below.refl _ _ | with_reducible assumption | with_reducible refine Below.drew ?_ | with_reducible refine below_drawn ?_ | with_reducible refine Below.alloc ?_ (by first | omega | (simp; done) | (simp; omega) | (simp at *; omega)) _ | with_reducible refine Below.setCell ?_ (by first | omega | (simp; done) | (simp; omega) | (simp at *; omega)) _ | with_reducible refine Below.trans ?_ (Below.mono (by assumption) (by first | omega | (simp; done) | (simp; omega) | (simp at *; omega)))))); have hxo : ZObj wd X (Zn.mk z.id z.fr z.to z.owner z.epoch 0 0 z0 0) := (by rw [hwd]; exact zobj_new _ _ HX.out _ _ rfl); clear hwd)
    have hxf : ∀ j, wd.frozen? ⟨X, j, none⟩ = false := hxo.nine.2
    obtain ⟨⟨x0, x1, x2, x3, x4, x5, x6, x7, x8⟩, -⟩ := hxo.nine
    have Hxo := Lib.hid hxo
    have n1 : X ≠ A + 1 := by omega
    have n2 : X ≠ A := by omega
    have n3 : X ≠ w.heap.size := by omega
    have hXle : w.heap.size ≤ X := by omega
    have ew : IntKind.i64.wrap (z.epoch + 1) = z.epoch + 1 := by rw [IntKind.wrap_i64]; omega
    clear hxo w2_hc w2_hf wb_c0 wb_c1 wb_c2 wb_c3 wb_c4 wb_c5 wb_c6
    go_region_law (fail)
    all_goals
      go_wp2_with fail
      go_meet
      refine ⟨rfl, ?_, Lib.hid (by repeat (first | with_reducible exact Below.refl _ _ | with_reducible assumption | with_reducible refine Below.drew ?_ | with_reducible refine below_drawn ?_ | with_reducible refine Below.alloc ?_ (by first | omega | (simp; done) | (simp; omega) | (simp at *; omega)) _ | with_reducible refine Below.setCell ?_ (by first | omega | (simp; done) | (simp; omega) | (simp at *; omega)) _ | with_reducible refine Below.trans ?_ (Below.mono (by assumption) (by first | omega | (simp; done) | (simp; omega) | (simp at *; omega))))), by go_simp, by go_simp, by go_simp, by go_simp⟩
      first
        | with_reducible exact Lib.hid (ZObj.drew (ZObj.s124 Hxo.out))
        | with_reducible exact Lib.hid (ZObj.drew (ZObj.s412 Hxo.out))
        | trace_state; fail
  case rest =>
    obtain ⟨rfl, HA, HB, q7, q8, b0, b1⟩ := hcut
    obtain ⟨⟨x0, x1, x2, x3, x4, x5, x6, x7, x8⟩, -⟩ := HA.out.nine
    have wc_b := HB.out
    have wc_le := wc_b.size
    have sX : X < wc.heap.size := HA.out.lt
    have hA0 : A + 1 < wc.heap.size := by omega
    have hw0 : w.heap.size < wc.heap.size := by omega
    obtain ⟨wz, rfl⟩ : ∃ wz : World, wz = wc := ⟨_, rfl⟩
    have Hcut2 : True := trivial
    clear w2_hc w2_hf wb_c0 wb_c1 wb_c2 wb_c3 wb_c4 wb_c5 wb_c6 Hcut2 w2_s0 w2_s1 w2_s2 w2_s3 w2_s4 w2_b w2_z w2_le wb_s0 wb_s1 wb_s2 wb_s3 wb_s4 wb_le hX1 HX Hcut
    go_upto_region 10 with fail
    obtain ⟨Y, hY⟩ : ∃ Y, Y = wz.heap.size := ⟨_, rfl⟩
    rw [← hY]
    have hY1 : Y ≤ wz.heap.size := by omega
    have hY2 : X < Y := by omega
    have HY := Lib.hid hY
    clear hY
    go_cut [11] (fun s11 wx => s11 = .pointer (some ⟨Y, 0, none⟩) ∧ Hid (ZObj wx X (Zn.mk z.id z.fr z.key z.owner (z.epoch + 1) 0 0 z0 0)) ∧ Hid (ZObj wx Y (Zn.mk z.nw z.key z.to z.owner (z.epoch + 1) 0 0 z0 0)) ∧ Hid (Below w.heap.size w wx))
    case first =>
      (refine wp_name fun wd hwd => ?_; have wd_s0 : w.heap.size < wd.heap.size := (by rw [hwd]; first | omega | (simp; done) | (simp; omega)); have wd_s1 : A + 1 < wd.heap.size := (by rw [hwd]; first | omega | (simp; done) | (simp; omega)); have wd_s2 : Y < wd.heap.size := (by rw [hwd]; first | omega | (simp; done) | (simp; omega)); have wd_c0 : wd.cell? ⟨w.heap.size, 8, none⟩ = some (.int .i64 z.nw) := (by rw [hwd]; go_simp); have wd_c1 : wd.cell? ⟨A + 1, 0, none⟩ = some (.string z.key) := (by rw [hwd]; go_simp); have wd_c2 : wd.cell? ⟨A + 1, 1, none⟩ = some (.string z.to) := (by rw [hwd]; go_simp); have wd_b : Below w.heap.size w wd := (by rw [hwd]; exact (by repeat (first | with_reducible exact Below.refl _ _ | with_reducible assumption | with_reducible refine Below.drew ?_ | with_reducible refine below_drawn ?_ | with_reducible refine Below.alloc ?_ (by first | omega | (simp; done) | (simp; omega) | (simp at *; omega)) _ | with_reducible refine Below.setCell ?_ (by first | omega | (simp; done) | (simp; omega) | (simp at *; omega)) _ | with_reducible refine Below.trans ?_ (Below.mono (by assumption) (by first | omega | (simp; done) | (simp; omega) | (simp at *; omega)))))); have hxo : ZObj wd Y (Zn.mk z.id z.fr z.key z.owner (z.epoch + 1) 0 0 z0 0) := (by rw [hwd]; exact zobj_new _ _ HY.out _ _ rfl); have hxa : ZObj wd X (Zn.mk z.id z.fr z.key z.owner (z.epoch + 1) 0 0 z0 0) := (by rw [hwd]; exact HA.out.grow (below_allocO _ _)); clear hwd)
      have hxf : ∀ j, wd.frozen? ⟨Y, j, none⟩ = false := hxo.nine.2
      obtain ⟨⟨y0, y1, y2, -, -, -, -, -, -⟩, -⟩ := hxo.nine
      have Hxo := Lib.hid hxo
      have Hxa := Lib.hid hxa
      have n1 : Y ≠ A + 1 := by omega
      have n3 : Y ≠ w.heap.size := by omega
      have n4 : X ≠ Y := by omega
      have hYle : w.heap.size ≤ Y := by omega
      clear hxo hxa HA HB x0 x1 x2 x3 x4 x5 x6 x7 x8 q7 q8 b0 b1
      go_region_law (fail)
      all_goals
        go_wp2_with fail
        go_meet
        refine ⟨rfl, ?_, ?_, Lib.hid (by repeat (first | with_reducible exact Below.refl _ _ | with_reducible assumption | with_reducible refine Below.drew ?_ | with_reducible refine below_drawn ?_ | with_reducible refine Below.alloc ?_ (by first | omega | (simp; done) | (simp; omega) | (simp at *; omega)) _ | with_reducible refine Below.setCell ?_ (by first | omega | (simp; done) | (simp; omega) | (simp at *; omega)) _ | with_reducible refine Below.trans ?_ (Below.mono (by assumption) (by first | omega | (simp; done) | (simp; omega) | (simp at *; omega)))))⟩
        · exact Lib.hid ((((Hxa.out.far n4 _ _).far n4 _ _).far n4 _ _).drew)
        · first
            | with_reducible exact Lib.hid (ZObj.drew (ZObj.s012 Hxo.out))
            | with_reducible exact Lib.hid (ZObj.drew (ZObj.s120 Hxo.out))
            | trace_state; fail
    case rest =>
      obtain ⟨rfl, HA2, HB2, HB⟩ := hcut
      obtain ⟨⟨x0, x1, x2, x3, x4, x5, x6, x7, x8⟩, -⟩ := HA2.out.nine
      obtain ⟨⟨y0, y1, y2, y3, y4, y5, y6, y7, y8⟩, -⟩ := HB2.out.nine
      have sX2 := HA2.out.lt
      have sY2 := HB2.out.lt
      have wc_b := HB.out
      have wc_le2 := wc_b.size
      have sp : p < wc.heap.size := by omega
      have xp := (wc_b.cell (p := ⟨p, 2, none⟩) hp).trans c2
      have hS := H.out.grow wc_b
      have xpf : wc.frozen? ⟨p, 2, none⟩ = false := (dir_cells hS.head).2.2.2.2.2 2
      have hzf := hS.head.2.1.facts
      have hzc : n ≤ zc := by rw [Hn.out]; exact hzf.2.2.1
      have hzm := hzf.2.2.2
      have HS := Lib.hid hS
      have Hz := Lib.hid hS.head.2.1.at
      have hlk : (znR (m.zs.take i)).length = i * 9 := by rw [znR_length, List.length_take, Nat.min_eq_left (by have := Hn.out; omega)]
      have Hlk := Lib.hid hlk
      obtain ⟨i0, hii, hz0, hz1, hz2⟩ := info_parts zoneInfo
      clear hS hzf hlk HA2 HB2 HA
      obtain ⟨wo, rfl⟩ : ∃ wo : World, wo = wc := ⟨_, rfl⟩
      have hbase := Nat.le_refl wo.heap.size
      have hkc : i ≤ zc := by omega
      have hkc1 : (i : Int) ≤ zc := by omega
      have hkc2 : (0 : Int) ≤ i := by omega
      go_upto_region 12 with fail
      go_cut [12] (fun s12 wx => OwnV wx wo.heap.size s12 (i + 2) (m.zs.take i ++ [Zn.mk z.id z.fr z.key z.owner (z.epoch + 1) 0 0 z0 0, Zn.mk z.nw z.key z.to z.owner (z.epoch + 1) 0 0 z0 0]) ∧ Hid (Below wo.heap.size wo wx))
      case first =>
        refine wp_region_noPanic ?_
        refine wp_region_held (S := (fun W => Below wo.heap.size wo W ∧ ∀ b o, b < wo.heap.size → W.cell? ⟨b, o, none⟩ = wo.cell? ⟨b, o, none⟩)) (by kernel_rfl) ?_
        change wpAnyH _ _ _ _ _ _ _ _ (World.drew _)
        have hS0 := stay_drew wo
        (refine takeD (i := 1) (v := ?v1) 54 rfl rfl (by kernel_rfl) (by kernel_rfl) (by kernel_rfl) (fun _ _ _ h => h) (Or.inl ⟨by rfl, ?hy1⟩) hS0 ?rest1; (case hy1 => (intro w hSw; (try dsimp only at hSw); go_simp; (try with_reducible rfl))); (try simp only [Act.put, List.setIfInBounds_toArray, List.set_cons_zero, List.set_cons_succ]))
        (refine takeD (i := 2) (v := ?v2) 55 rfl rfl (by kernel_rfl) (by kernel_rfl) (by kernel_rfl) (fun _ _ _ h => h) (Or.inl ⟨by rfl, ?hy2⟩) hS0 ?rest2; (case hy2 => (intro w hSw; (try dsimp only at hSw); go_simp; (try with_reducible rfl))); (try simp only [Act.put, List.setIfInBounds_toArray, List.set_cons_zero, List.set_cons_succ]))
        (refine takeD (i := 3) (v := ?v3) 56 rfl rfl (by kernel_rfl) (by kernel_rfl) (by kernel_rfl) (fun _ _ _ h => h) (Or.inl ⟨by rfl, ?hy3⟩) hS0 ?rest3; (case hy3 => (intro w hSw; (try dsimp only at hSw); go_simp; (try with_reducible rfl))); (try simp only [Act.put, List.setIfInBounds_toArray, List.set_cons_zero, List.set_cons_succ]))
        (refine takeD (i := 5) (v := ?v5) 58 rfl rfl (by kernel_rfl) (by kernel_rfl) (by kernel_rfl) (fun _ _ _ h => h) (Or.inl ⟨by rfl, ?hy5⟩) hS0 ?rest5; (case hy5 => (intro w hSw; (try dsimp only at hSw); go_simp; (try with_reducible rfl))); (try simp only [Act.put, List.setIfInBounds_toArray, List.set_cons_zero, List.set_cons_succ]))
        (refine takeD (i := 6) (v := ?v6) 59 rfl rfl (by kernel_rfl) (by kernel_rfl) (by kernel_rfl) (fun _ _ _ h => h) (Or.inl ⟨by rfl, ?hy6⟩) hS0 ?rest6; (case hy6 => (intro w hSw; (try dsimp only at hSw); go_simp; (try with_reducible rfl))); (try simp only [Act.put, List.setIfInBounds_toArray, List.set_cons_zero, List.set_cons_succ]))
        refine three_at (n := 2) 53 57 60 (fun bA bB bC => #[bA, true, true, true, bB, true, true, bC, false, false]) (RI wo i 2 m.zs [Zn.mk z.id z.fr z.key z.owner (z.epoch + 1) 0 0 z0 0, Zn.mk z.nw z.key z.to z.owner (z.epoch + 1) 0 0 z0 0]) 0 4 7 (by kernel_rfl) (by kernel_rfl) (by kernel_rfl) (by kernel_rfl) (by kernel_rfl) ?mA ?mB ?mC (RI.start wo i 2 m.zs _) ?hA ?hB ?hC ?hend
        case mA => intro b; rfl
        case mB => intro b; rfl
        case mC => intro b c; rfl
        case hA =>
          intro vC w3 hI K hK
          cases vC
          all_goals
            simp only [frA, putO, Act.put, List.setIfInBounds_toArray, List.set_cons_zero, List.set_cons_succ] at hK ⊢
            refine wpOp_step rfl (fun K' hK' => ?_)
            go_simp
            exact hK' _ _ (hK _ _ (stay_mk hI.newA.b) hI.newA)
        case hB =>
          intro vA vC w3 hI K hK
          obtain ⟨ga, rfl, hga, hga2, hoA⟩ := hI.eA _ rfl rfl
          cases vC
          all_goals
            simp only [frA, putO, Act.put, List.setIfInBounds_toArray, List.set_cons_zero, List.set_cons_succ] at hK ⊢
            refine wpOp_step rfl (fun K' hK' => ?_)
            refine step_append_any _ rfl (.tmp 53) (.tmp 56) 28 rfl wo.heap.size 39 i0 (.agg zero9) 9 96 Try.underlying28 hii hz0 hz1 hz2 rfl (by decide) (.slice (some ⟨ga, 0, none⟩) 0 0) 0 [] rfl hoA (some ⟨g, 0, none⟩) i zc (znR (m.zs.take i)) rfl (fun h => (nomatch h)) Hlk.out (take_cells Hz.out hI.b i) (znR_one _) (by unfold maxLen; omega) (by omega) hI.b.size ?_
            intro v' w' hown hgrow
            exact hK' _ _ (hK _ _ (stay_mk (hI.stepB hown hgrow).b) (hI.stepB hown hgrow))
        case hC =>
          intro vA vB w3 hI hBA K hK
          cases vA <;> cases vB
          all_goals
            (first
              | (exfalso; simp at hBA; done)
              | (simp only [frA, putO, Act.put, List.setIfInBounds_toArray, List.set_cons_zero, List.set_cons_succ] at hK ⊢
                 refine wpOp_step rfl (fun K' hK' => ?_)
                 go_simp
                 exact hK' _ _ (hK _ _ (stay_mk (hI.newC rfl).b) (hI.newC rfl))))
        case hend =>
          intro vA vB vC w3 hI
          have hoB := hI.eB _ rfl
          obtain ⟨gc, rfl, hgc, hgc2, hcc⟩ := hI.eC _ rfl
          have hb3 := hI.b
          simp only [frA, putO, Act.put, List.setIfInBounds_toArray, List.set_cons_zero, List.set_cons_succ]
          refine wpAnyH_all (rs := [8]) (by kernel_rfl) (by simp) (fun i' hi' => ?_)
          obtain rfl : i' = 8 := by simpa using hi'
          refine wpOp_step rfl (fun K' hK' => ?_)
          refine step_append_any _ rfl (.tmp 57) (.tmp 60) 28 rfl wo.heap.size 39 i0 (.agg zero9) 9 96 Try.underlying28 hii hz0 hz1 hz2 rfl (by decide) vB i (znR (m.zs.take i)) rfl hoB (some ⟨gc, 0, none⟩) 2 2 (znR [Zn.mk z.id z.fr z.key z.owner (z.epoch + 1) 0 0 z0 0, Zn.mk z.nw z.key z.to z.owner (z.epoch + 1) 0 0 z0 0]) rfl (fun h => (nomatch h)) rfl hcc (znR_one _) (by unfold maxLen; omega) (by omega) hb3.size ?_
          intro v' w4 hown hgrow
          have hb4 : Below wo.heap.size wo w4 := below_grown hb3 hb3.size hgrow (fun k hk => own_block hoB hk)
          rw [← znR_append] at hown
          refine hK' _ _ ⟨stay_mk hb4, ?_⟩
          clear hK' K'
          simp only [Act.put, List.setIfInBounds_toArray, List.set_cons_zero, List.set_cons_succ]
          refine wpAnyH_all (rs := [9]) (by kernel_rfl) (by simp) (fun i' hi' => ?_)
          obtain rfl : i' = 9 := by simpa using hi'
          refine wpOp_step rfl (fun K' hK' => ?_)
          go_simp
          refine hK' _ _ ⟨stay_mk hb4, ?_⟩
          clear hK' K'
          refine wpAnyH_done (by kernel_rfl) ?_ _
          refine NoPanic.normal ?_
          go_wp2_with fail
          go_meet
          exact ⟨hown, Lib.hid hb4⟩
      case rest =>
        obtain ⟨hown, Hb2⟩ := hcut
        obtain ⟨g2, cap2, rfl, hO⟩ := hown.shape (by omega)
        have HO := Lib.hid hO
        obtain ⟨l', hl'⟩ : ∃ l', l' = m.zs.take i ++ Zn.mk z.id z.fr z.key z.owner (z.epoch + 1) 0 0 z0 0 :: Zn.mk z.nw z.key z.to z.owner (z.epoch + 1) 0 0 z0 0 :: m.zs.drop (i + 1) := ⟨_, rfl⟩
        have hlen' : l'.length = i + 2 + (n - (i + 1)) := by
          have := Hn.out
          rw [hl', List.length_append, List.length_cons, List.length_cons, List.length_take, List.length_drop, Nat.min_eq_left (by omega)]; omega
        have hdl : (znR (m.zs.drop (i + 1))).length = (n - (i + 1)) * 9 := by rw [znR_length, List.length_drop, ← Hn.out]
        have hnle : m.zs.length ≤ n := by rw [← Hn.out]; exact Nat.le_refl n
        have HLn := Lib.hid hlen'
        have HL := Lib.hid hl'
        have Hdl := Lib.hid hdl
        have hsz2 := Hb2.out.size
        have q1 := (Hb2.out.cell (p := ⟨p, 2, none⟩) sp).trans xp
        have q2 := (Hb2.out.frozen (p := ⟨p, 2, none⟩) sp).trans xpf
        have Hzc := Lib.hid (Hz.out.grow Hb2.out)
        have e9 : IntKind.i64.wrap ((i : Int) + 1) = (i : Int) + 1 := by rw [IntKind.wrap_i64]; omega
        clear hown hO hlen' hl' hdl x0 x1 x2 x3 x4 x5 x6 x7 x8 y0 y1 y2 y3 y4 y5 y6 y7 y8 xp xpf
        by_cases hcc : zc = i + 1
        all_goals
          go_wp2_with (at_builtin; go_must (refine wpList_append_any _ rfl (.tmp 63) (.tmp 67) 28 rfl wo.heap.size 39 i0 (.agg zero9) 9 96 Try.underlying28 hii hz0 hz1 hz2 rfl (by decide) _ (i + 2) (znR (m.zs.take i ++ [Zn.mk z.id z.fr z.key z.owner (z.epoch + 1) 0 0 z0 0, Zn.mk z.nw z.key z.to z.owner (z.epoch + 1) 0 0 z0 0])) rfl HO.out (some _) (n - (i + 1)) _ (znR (m.zs.drop (i + 1))) rfl (fun h => (nomatch h)) Hdl.out (drop_cells Hzc.out (Below.refl _ _) (i + 1) _ (fun h => by first | rfl | (exfalso; omega))) (znR_one _) (by unfold maxLen; omega) (by omega) hsz2 ?_))
          intro v' w' hown' hgrow'
          have hbw' : Below wo.heap.size wo w' := below_grown Hb2.out hsz2 hgrow' (fun q hq => own_block HO.out hq)
          have hown2 : OwnV w' wo.heap.size v' (i + 2 + (n - (i + 1))) l' := by
            have e : znR l' = znR (m.zs.take i ++ [Zn.mk z.id z.fr z.key z.owner (z.epoch + 1) 0 0 z0 0, Zn.mk z.nw z.key z.to z.owner (z.epoch + 1) 0 0 z0 0]) ++ znR (m.zs.drop (i + 1)) := by rw [← znR_append, HL.out]; simp
            unfold OwnV
            rw [e]
            exact hown'
          obtain ⟨g3, cap3, rfl, hO3⟩ := hown2.shape (by omega)
          have q1' := (hbw'.cell (p := ⟨p, 2, none⟩) sp).trans ((Hb2.out.cell (p := ⟨p, 2, none⟩) sp).symm.trans q1)
          have q2' := (hbw'.frozen (p := ⟨p, 2, none⟩) sp).trans ((Hb2.out.frozen (p := ⟨p, 2, none⟩) sp).symm.trans q2)
          have HO3 : Hid (OwnZ w' wo.heap.size g3 cap3 l') := by
            have h3 := hO3
            unfold OwnV at h3
            rw [← HLn.out] at h3
            exact Lib.hid h3
          have Hbw := Lib.hid hbw'
          clear hown' hgrow' hbw' hO3 hown2
          have hfin : Hid (St W (w'.setCell ⟨p, 2, none⟩ (.slice (some ⟨g3, 0, none⟩) (i + 2 + (n - (i + 1))) cap3)) (thDir 49 W.heap.size p g3 cap3 { m with zs := m.zs.take i ++ Zn.mk z.id z.fr z.key z.owner (z.epoch + 1) 0 0 z0 0 :: Zn.mk z.nw z.key z.to z.owner (z.epoch + 1) 0 0 z0 0 :: m.zs.drop (i + 1) } ho hl hc :: L)) := by
            rw [← HL.out]
            exact Lib.hid (HS.out.dirRow (keeps_same0 Hbw.out _) (HO3.out.weak HS.out.b.size) (.inr HO3.out.facts.1) _ HLn.out.symm)
          clear HO3 Hbw
          go_wp2_with fail
          go_ret
          exact chPost_yes rfl hfin.out
end Go.Proofs.Ytobnibdeimiinaa
