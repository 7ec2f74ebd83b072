/- The contract of the document's done: a merge that is done. -/
import Derived.Test.YtobnibdeimiinaaRTh
import Derived.Test.YtobnibdeimiinaaRd
import Derived.Test.YtobnibdeimiinaaPn
import Derived.Test.YtobnibdeimiinaaSq
import Derived.Test.YtobnibdeimiinaaStep
import Derived.Deep.DeepCutAuto
import Derived.Deep.AppendLies
namespace Go.Proofs.Ytobnibdeimiinaa
open Go.RowKit

set_option maxRecDepth 20000 in
set_option maxHeartbeats 4000000 in
theorem rdone_merge {W w : World} {L : List Th} {p g zc : Nat} {m : Mp} {ho : Option Addr} {hl hc : Nat} (h : St W w (thDir 49 W.heap.size p g zc m ho hl hc :: L)) (hm : m.zs.length ≤ 16) (i : Nat) (z y : Zn) (hi : m.zs[i]? = some z) (k : Nat) (hk : k = i + 1) (hy : m.zs[k]? = some y) (hz : 1 ≤ z.epoch) (hyz : 1 ≤ y.epoch) (h1 : z.pend = 2) (h3 : z.epoch < 1099511627776) (h4 : y.epoch ≤ 1099511627776) (h5 : findZ m.zs z.nw = some k) :
    Calls Try.prog 87 #[.pointer (some ⟨p, 0, none⟩), .int .i64 i] w (ChPost 49 W p m ho hl hc L (some { m with zs := m.zs.take i ++ joinZ z y :: m.zs.drop (i + 2) })) := by
  obtain ⟨hp, c0, c1, c2, c3, hf⟩ := dir_cells h.head
  obtain ⟨hil, hie⟩ := List.getElem?_eq_some_iff.1 hi
  obtain ⟨hil2, hye⟩ := List.getElem?_eq_some_iff.1 hy
  have hat := h.head.2.1.at
  have hg := hat.lt
  obtain ⟨d0, d1, d2, d3, d4, d5, d6, d7, d8⟩ := hat.nine i hil z hie.symm
  obtain ⟨r0, r1, r2, r3, r4, r5, r6, r7, r8⟩ := hat.nine k hil2 y hye.symm
  have hfd := fun (w3 : World) (hb : Below w.heap.size w w3) => rfind_any (zc := zc) (hat.grow hb) (by omega) z.nw
  rw [show fz m.zs z.nw = (k : Int) by unfold fz; rw [h5]] at hfd
  have H := Lib.hid h
  obtain ⟨n, hn⟩ : ∃ n, n = m.zs.length := ⟨_, rfl⟩
  obtain ⟨ep, hep⟩ : ∃ ep, ep = max z.epoch y.epoch + 1 := ⟨_, rfl⟩
  obtain ⟨ok, hok⟩ : ∃ ok, ok = joinOk z.fr z.to y.fr y.to := ⟨_, rfl⟩
  have hjn := fun w => satrapyref12_join z.fr z.to y.fr y.to w
  rw [← hok] at hjn
  have Hjn := Lib.hid hjn
  rw [← hn] at hil hil2 hm c2 hfd
  have Hfd := Lib.hid hfd
  have Hn := Lib.hid hn
  have Hi := Lib.hid hi
  have Hy := Lib.hid hy
  have Hep := Lib.hid hep
  have Hok := Lib.hid hok
  have ew : IntKind.i64.wrap (max z.epoch y.epoch + 1) = ep := by rw [IntKind.wrap_i64]; omega
  clear hat hn hi hie h c0 c1 c3 hf hok hjn hfd hep hy hye h5
  have e1 : (z.pend == 1) = false := by rw [h1]; rfl
  have e2 : (z.pend == 2) = true := by rw [h1]; rfl
  have e9 : IntKind.i64.wrap ((i : Int) + 1) = (i : Int) + 1 := by rw [IntKind.wrap_i64]; omega
  have e8 : ((k : Int) != (i : Int) + 1) = false := by rw [bne_eq_false_iff_eq]; omega
  have e7 : IntKind.i64.wrap ((k : Int) + 1) = (k : Int) + 1 := by rw [IntKind.wrap_i64]; omega
  have Hk := Lib.hid hk
  clear h1 hk
  go_enter Try.func87, Try.ntmps87
  go_wp2_with fail
  (refine calls_name fun wa hwa => ?_; have wa_s0 : p < wa.heap.size := (by rw [hwa]; first | omega | (simp; done) | (simp; omega)); have wa_s1 : g < wa.heap.size := (by rw [hwa]; first | omega | (simp; done) | (simp; omega)); have wa_s2 : w.heap.size < wa.heap.size := (by rw [hwa]; first | omega | (simp; done) | (simp; omega)); have wa_c0 : wa.cell? ⟨w.heap.size, 0, none⟩ = some (.int .i64 z.id) := (by rw [hwa]; go_simp); have wa_c1 : wa.cell? ⟨w.heap.size, 1, none⟩ = some (.string z.fr) := (by rw [hwa]; go_simp); have wa_c2 : wa.cell? ⟨w.heap.size, 2, none⟩ = some (.string z.to) := (by rw [hwa]; go_simp); have wa_c3 : wa.cell? ⟨w.heap.size, 3, none⟩ = some (.int .i64 z.owner) := (by rw [hwa]; go_simp); have wa_c4 : wa.cell? ⟨w.heap.size, 4, none⟩ = some (.int .i64 z.epoch) := (by rw [hwa]; go_simp); have wa_c5 : wa.cell? ⟨w.heap.size, 5, none⟩ = some (.int .i64 z.pend) := (by rw [hwa]; go_simp); have wa_c6 : wa.cell? ⟨w.heap.size, 6, none⟩ = some (.int .i64 z.tt) := (by rw [hwa]; go_simp); have wa_c7 : wa.cell? ⟨w.heap.size, 7, none⟩ = some (.string z.key) := (by rw [hwa]; go_simp); have wa_c8 : wa.cell? ⟨w.heap.size, 8, none⟩ = some (.int .i64 z.nw) := (by rw [hwa]; go_simp); have wa_c9 : wa.cell? ⟨g, k * 9 + 1, none⟩ = some (.string y.fr) := (by rw [hwa]; go_simp); have wa_c10 : wa.cell? ⟨g, k * 9 + 2, none⟩ = some (.string y.to) := (by rw [hwa]; go_simp); have wa_c11 : wa.cell? ⟨g, k * 9 + 4, none⟩ = some (.int .i64 y.epoch) := (by rw [hwa]; go_simp); have wa_b : Below w.heap.size w wa := (by rw [hwa]; exact (by repeat (first | with_reducible exact Below.refl _ _ | with_reducible assumption | with_reducible refine Below.drew ?_ | with_reducible refine below_drawn ?_ | with_reducible refine Below.alloc ?_ (by first | omega | (simp; done) | (simp; omega) | (simp at *; omega)) _ | with_reducible refine Below.setCell ?_ (by first | omega | (simp; done) | (simp; omega) | (simp at *; omega)) _ | with_reducible refine Below.trans ?_ (Below.mono (by assumption) (by first | omega | (simp; done) | (simp; omega) | (simp at *; omega)))))); clear hwa)
  clear d0 d1 d2 d3 d4 d5 d6 d7 d8 r0 r1 r2 r3 r5 r6 r7 r8
  refine (Hfd.out _ wa_b).mono ?_
  (rintro e w1 ⟨rfl, w1_h⟩; obtain ⟨w1_hc, w1_hf⟩ := bcell w1_h; have w1_z := w1_h.size; have w1_b := wa_b.trans (w1_h.mono (by have := wa_b.size; omega)); have w1_le := w1_b.size; have w1_s0 : p < w1.heap.size := (by omega); have w1_s1 : g < w1.heap.size := (by omega); have w1_s2 : w.heap.size < w1.heap.size := (by omega); clear w1_h)
  have wa_le := wa_b.size
  go_wp2_with fail
  (refine calls_name fun wb hwb => ?_; have wb_s0 : p < wb.heap.size := (by rw [hwb]; first | omega | (simp; done) | (simp; omega)); have wb_s1 : g < wb.heap.size := (by rw [hwb]; first | omega | (simp; done) | (simp; omega)); have wb_s2 : w.heap.size < wb.heap.size := (by rw [hwb]; first | omega | (simp; done) | (simp; omega)); have wb_c0 : wb.cell? ⟨w.heap.size, 1, none⟩ = some (.string z.fr) := (by rw [hwb]; go_simp); have wb_c1 : wb.cell? ⟨w.heap.size, 2, none⟩ = some (.string z.to) := (by rw [hwb]; go_simp); have wb_c2 : wb.cell? ⟨w.heap.size, 4, none⟩ = some (.int .i64 z.epoch) := (by rw [hwb]; go_simp); have wb_c3 : wb.cell? ⟨g, k * 9 + 1, none⟩ = some (.string y.fr) := (by rw [hwb]; go_simp); have wb_c4 : wb.cell? ⟨g, k * 9 + 2, none⟩ = some (.string y.to) := (by rw [hwb]; go_simp); have wb_c5 : wb.cell? ⟨g, k * 9 + 4, none⟩ = some (.int .i64 y.epoch) := (by rw [hwb]; go_simp); have wb_b : Below w.heap.size w wb := (by rw [hwb]; exact (by repeat (first | with_reducible exact Below.refl _ _ | with_reducible assumption | with_reducible refine Below.drew ?_ | with_reducible refine below_drawn ?_ | with_reducible refine Below.alloc ?_ (by first | omega | (simp; done) | (simp; omega) | (simp at *; omega)) _ | with_reducible refine Below.setCell ?_ (by first | omega | (simp; done) | (simp; omega) | (simp at *; omega)) _ | with_reducible refine Below.trans ?_ (Below.mono (by assumption) (by first | omega | (simp; done) | (simp; omega) | (simp at *; omega)))))); clear hwb)
  clear wa_c0 wa_c1 wa_c2 wa_c3 wa_c4 wa_c5 wa_c6 wa_c7 wa_c8 wa_c9 wa_c10 wa_c11 w1_hc w1_hf
  have wb_le := wb_b.size
  refine (free_any z _).mono ?_
  (rintro e w2 ⟨rfl, w2_h⟩; obtain ⟨w2_hc, w2_hf⟩ := bcell w2_h; have w2_z := w2_h.size; have w2_b := wb_b.trans (w2_h.mono (by have := wb_b.size; omega)); have w2_le := w2_b.size; have w2_s0 : p < w2.heap.size := (by omega); have w2_s1 : g < w2.heap.size := (by omega); have w2_s2 : w.heap.size < w2.heap.size := (by omega); clear w2_h)
  go_upto_region 18 with fail
  obtain ⟨X, hX⟩ : ∃ X, X = w2.heap.size := ⟨_, rfl⟩
  have hXw : w.heap.size < X := by omega
  have hXg : g < X := by omega
  have hX1 : X ≤ w2.heap.size := by omega
  rw [← hX]
  have HX := Lib.hid hX
  clear hX
  go_cut [14] (fun s14 wx => s14 = .pointer (some ⟨X, 0, none⟩) ∧ Hid (ZObj wx X (Zn.mk z.id (sel ok z.fr) (sel ok y.to) z.owner z.epoch 0 0 z0 0)) ∧ Hid (Below w.heap.size w wx) ∧ wx.cell? ⟨w.heap.size, 4, none⟩ = some (.int .i64 z.epoch))
  case first =>
    (refine wp_name fun wd hwd => ?_; have wd_s0 : p < wd.heap.size := (by rw [hwd]; first | omega | (simp; done) | (simp; omega)); have wd_s1 : g < wd.heap.size := (by rw [hwd]; first | omega | (simp; done) | (simp; omega)); have wd_s2 : w.heap.size < wd.heap.size := (by rw [hwd]; first | omega | (simp; done) | (simp; omega)); have wd_s3 : X < wd.heap.size := (by rw [hwd]; first | omega | (simp; done) | (simp; omega)); have wd_c0 : wd.cell? ⟨w.heap.size, 1, none⟩ = some (.string z.fr) := (by rw [hwd]; go_simp); have wd_c1 : wd.cell? ⟨w.heap.size, 2, none⟩ = some (.string z.to) := (by rw [hwd]; go_simp); have wd_c2 : wd.cell? ⟨w.heap.size, 4, none⟩ = some (.int .i64 z.epoch) := (by rw [hwd]; go_simp); have wd_c3 : wd.cell? ⟨g, k * 9 + 1, none⟩ = some (.string y.fr) := (by rw [hwd]; go_simp); have wd_c4 : wd.cell? ⟨g, k * 9 + 2, none⟩ = some (.string y.to) := (by rw [hwd]; go_simp); have wd_c5 : wd.cell? ⟨g, k * 9 + 4, none⟩ = some (.int .i64 y.epoch) := (by rw [hwd]; go_simp); have wd_b : Below w.heap.size w wd := (by rw [hwd]; exact (by repeat (first | with_reducible exact Below.refl _ _ | with_reducible assumption | with_reducible refine Below.drew ?_ | with_reducible refine below_drawn ?_ | with_reducible refine Below.alloc ?_ (by first | omega | (simp; done) | (simp; omega) | (simp at *; omega)) _ | with_reducible refine Below.setCell ?_ (by first | omega | (simp; done) | (simp; omega) | (simp at *; omega)) _ | with_reducible refine Below.trans ?_ (Below.mono (by assumption) (by first | omega | (simp; done) | (simp; omega) | (simp at *; omega)))))); have hxo : ZObj wd X (Zn.mk z.id z.fr z.to z.owner z.epoch 0 0 z0 0) := (by rw [hwd]; exact zobj_new _ _ HX.out _ _ rfl); clear hwd)
    have hxf : ∀ j, wd.frozen? ⟨X, j, none⟩ = false := hxo.nine.2
    obtain ⟨⟨x0, x1, x2, x3, x4, x5, x6, x7, x8⟩, -⟩ := hxo.nine
    have Hxo := Lib.hid hxo
    have n3 : X ≠ w.heap.size := by omega
    have hXle : w.heap.size ≤ X := by omega
    have wd_le := wd_b.size
    clear hxo w2_hc w2_hf wb_c0 wb_c1 wb_c2 wb_c3 wb_c4 wb_c5
    go_region_law (first | (refine at_goD 106 _ _ (by rfl) ?_; go_simp; go_at_call 106; (with_reducible refine (Hjn.out _).mono ?_); rintro e W' ⟨rfl, hbw⟩; have hbw2 : Below wd.heap.size wd W' := (Below.refl _ _).drew.trans hbw; have hws := hbw2.size; obtain ⟨hwc, hwf⟩ := bcell hbw2) | fail)
    all_goals
      have Hbw := Lib.hid hbw2
      have hwb : Below w.heap.size w W' := wd_b.trans (hbw2.mono wd_le)
      clear hbw hbw2
      go_wp2_with fail
      go_meet
      refine ⟨rfl, ?_, Lib.hid (by repeat (first | with_reducible exact Below.refl _ _ | with_reducible assumption | with_reducible refine Below.drew ?_ | with_reducible refine below_drawn ?_ | with_reducible refine Below.alloc ?_ (by first | omega | (simp; done) | (simp; omega) | (simp at *; omega)) _ | with_reducible refine Below.setCell ?_ (by first | omega | (simp; done) | (simp; omega) | (simp at *; omega)) _ | with_reducible refine Below.trans ?_ (Below.mono (by assumption) (by first | omega | (simp; done) | (simp; omega) | (simp at *; omega))))), by go_simp⟩
      first
        | with_reducible exact Lib.hid (ZObj.s12 (Hxo.out.grow Hbw.out))
        | with_reducible exact Lib.hid (ZObj.drew (ZObj.s12 (Hxo.out.grow Hbw.out)))
        | trace_state; fail
  case rest =>
    obtain ⟨rfl, HA, HB, q4⟩ := hcut
    have wc_b := HB.out
    have wc_le := wc_b.size
    have sX : X < wc.heap.size := HA.out.lt
    have sg : g < wc.heap.size := by omega
    have sw : w.heap.size < wc.heap.size := by omega
    have y4 := (wc_b.cell (p := ⟨g, k * 9 + 4, none⟩) hg).trans r4
    obtain ⟨wz, rfl⟩ : ∃ wz : World, wz = wc := ⟨_, rfl⟩
    clear w2_hc w2_hf w2_s0 w2_s1 w2_s2 w2_b w2_z w2_le wb_c0 wb_c1 wb_c2 wb_c3 wb_c4 wb_c5 wb_s0 wb_s1 wb_s2 wb_le hX1 HX Hjn Hfd wa_b wa_le wa_s0 wa_s1 wa_s2 w1_s0 w1_s1 w1_s2 w1_b w1_z w1_le wb_b
    go_upto_region 19 with fail
    go_cut [14] (fun s14 wx => s14 = .pointer (some ⟨X, 0, none⟩) ∧ Hid (ZObj wx X (Zn.mk z.id (sel ok z.fr) (sel ok y.to) z.owner ep 0 0 z0 0)) ∧ Hid (Below w.heap.size w wx))
    case first =>
      have hxf : ∀ j, wz.frozen? ⟨X, j, none⟩ = false := HA.out.nine.2
      obtain ⟨⟨x0, x1, x2, x3, x4, x5, x6, x7, x8⟩, -⟩ := HA.out.nine
      have n3 : X ≠ w.heap.size := by omega
      have n5 : X ≠ g := by omega
      have hXle : w.heap.size ≤ X := by omega
      go_region_law (fail)
      all_goals
        go_wp2_with fail
        go_meet
        refine ⟨rfl, ?_, Lib.hid (by repeat (first | with_reducible exact Below.refl _ _ | with_reducible assumption | with_reducible refine Below.drew ?_ | with_reducible refine below_drawn ?_ | with_reducible refine Below.alloc ?_ (by first | omega | (simp; done) | (simp; omega) | (simp at *; omega)) _ | with_reducible refine Below.setCell ?_ (by first | omega | (simp; done) | (simp; omega) | (simp at *; omega)) _ | with_reducible refine Below.trans ?_ (Below.mono (by assumption) (by first | omega | (simp; done) | (simp; omega) | (simp at *; omega)))))⟩
        first
          | with_reducible exact Lib.hid (ZObj.drew (ZObj.s4 HA.out))
          | trace_state; fail
    case rest =>
      obtain ⟨rfl, HA2, HB2⟩ := hcut
      obtain ⟨⟨x0, x1, x2, x3, x4, x5, x6, x7, x8⟩, -⟩ := HA2.out.nine
      have sX2 := HA2.out.lt
      have wc_b := HB2.out
      have wc_le2 := wc_b.size
      have sp : p < wc.heap.size := by omega
      have xp := (wc_b.cell (p := ⟨p, 2, none⟩) hp).trans c2
      have hS := H.out.grow wc_b
      have xpf : wc.frozen? ⟨p, 2, none⟩ = false := (dir_cells hS.head).2.2.2.2.2 2
      have hzf := hS.head.2.1.facts
      have hzc : n ≤ zc := by rw [Hn.out]; exact hzf.2.2.1
      have hzm := hzf.2.2.2
      have HS := Lib.hid hS
      have Hz := Lib.hid hS.head.2.1.at
      have hlk : (znR (m.zs.take i)).length = i * 9 := by rw [znR_length, List.length_take, Nat.min_eq_left (by have := Hn.out; omega)]
      have Hlk := Lib.hid hlk
      obtain ⟨i0, hii, hz0, hz1, hz2⟩ := info_parts zoneInfo
      clear hS hzf hlk HA2 HB2 HA HB y4 q4
      obtain ⟨wo, rfl⟩ : ∃ wo : World, wo = wc := ⟨_, rfl⟩
      have hbase := Nat.le_refl wo.heap.size
      have hkc : i ≤ zc := by omega
      have hkc1 : (i : Int) ≤ zc := by omega
      have hkc2 : (0 : Int) ≤ i := by omega
      go_upto_region 21 with fail
      go_cut [15] (fun s15 wx => OwnV wx wo.heap.size s15 (i + 1) (m.zs.take i ++ [Zn.mk z.id (sel ok z.fr) (sel ok y.to) z.owner ep 0 0 z0 0]) ∧ Hid (Below wo.heap.size wo wx))
      case first =>
        refine wp_region_noPanic ?_
        refine wp_region_held (S := (fun W => Below wo.heap.size wo W ∧ ∀ b o, b < wo.heap.size → W.cell? ⟨b, o, none⟩ = wo.cell? ⟨b, o, none⟩)) (by kernel_rfl) ?_
        change wpAnyH _ _ _ _ _ _ _ _ (World.drew _)
        have hS0 := stay_drew wo
        (refine takeD (i := 1) (v := ?v1) 107 rfl rfl (by kernel_rfl) (by kernel_rfl) (by kernel_rfl) (fun _ _ _ h => h) (Or.inl ⟨by rfl, ?hy1⟩) hS0 ?rest1; (case hy1 => (intro w hSw; (try dsimp only at hSw); go_simp; (try with_reducible rfl))); (try simp only [Act.put, List.setIfInBounds_toArray, List.set_cons_zero, List.set_cons_succ]))
        (refine takeD (i := 2) (v := ?v2) 108 rfl rfl (by kernel_rfl) (by kernel_rfl) (by kernel_rfl) (fun _ _ _ h => h) (Or.inl ⟨by rfl, ?hy2⟩) hS0 ?rest2; (case hy2 => (intro w hSw; (try dsimp only at hSw); go_simp; (try with_reducible rfl))); (try simp only [Act.put, List.setIfInBounds_toArray, List.set_cons_zero, List.set_cons_succ]))
        (refine takeD (i := 3) (v := ?v3) 109 rfl rfl (by kernel_rfl) (by kernel_rfl) (by kernel_rfl) (fun _ _ _ h => h) (Or.inl ⟨by rfl, ?hy3⟩) hS0 ?rest3; (case hy3 => (intro w hSw; (try dsimp only at hSw); go_simp; (try with_reducible rfl))); (try simp only [Act.put, List.setIfInBounds_toArray, List.set_cons_zero, List.set_cons_succ]))
        (refine takeD (i := 5) (v := ?v5) 111 rfl rfl (by kernel_rfl) (by kernel_rfl) (by kernel_rfl) (fun _ _ _ h => h) (Or.inl ⟨by rfl, ?hy5⟩) hS0 ?rest5; (case hy5 => (intro w hSw; (try dsimp only at hSw); go_simp; (try with_reducible rfl))); (try simp only [Act.put, List.setIfInBounds_toArray, List.set_cons_zero, List.set_cons_succ]))
        refine three_at (n := 2) 106 110 112 (fun bA bB bC => #[bA, true, true, true, bB, true, bC, false, false]) (RI wo i 1 m.zs [Zn.mk z.id (sel ok z.fr) (sel ok y.to) z.owner ep 0 0 z0 0]) 0 4 6 (by kernel_rfl) (by kernel_rfl) (by kernel_rfl) (by kernel_rfl) (by kernel_rfl) ?mA ?mB ?mC (RI.start wo i 1 m.zs _) ?hA ?hB ?hC ?hend
        case mA => intro b; rfl
        case mB => intro b; rfl
        case mC => intro b c; rfl
        case hA =>
          intro vC w3 hI K hK
          cases vC
          all_goals
            simp only [frA, putO, Act.put, List.setIfInBounds_toArray, List.set_cons_zero, List.set_cons_succ] at hK ⊢
            refine wpOp_step rfl (fun K' hK' => ?_)
            go_simp
            exact hK' _ _ (hK _ _ (stay_mk hI.newA.b) hI.newA)
        case hB =>
          intro vA vC w3 hI K hK
          obtain ⟨ga, rfl, hga, hga2, hoA⟩ := hI.eA _ rfl rfl
          cases vC
          all_goals
            simp only [frA, putO, Act.put, List.setIfInBounds_toArray, List.set_cons_zero, List.set_cons_succ] at hK ⊢
            refine wpOp_step rfl (fun K' hK' => ?_)
            refine step_append_any _ rfl (.tmp 106) (.tmp 109) 28 rfl wo.heap.size 39 i0 (.agg zero9) 9 96 Try.underlying28 hii hz0 hz1 hz2 rfl (by decide) (.slice (some ⟨ga, 0, none⟩) 0 0) 0 [] rfl hoA (some ⟨g, 0, none⟩) i zc (znR (m.zs.take i)) rfl (fun h => (nomatch h)) Hlk.out (take_cells Hz.out hI.b i) (znR_one _) (by unfold maxLen; omega) (by omega) hI.b.size ?_
            intro v' w' hown hgrow
            exact hK' _ _ (hK _ _ (stay_mk (hI.stepB hown hgrow).b) (hI.stepB hown hgrow))
        case hC =>
          intro vA vB w3 hI hBA K hK
          cases vA <;> cases vB
          all_goals
            (first
              | (exfalso; simp at hBA; done)
              | (simp only [frA, putO, Act.put, List.setIfInBounds_toArray, List.set_cons_zero, List.set_cons_succ] at hK ⊢
                 refine wpOp_step rfl (fun K' hK' => ?_)
                 go_simp
                 exact hK' _ _ (hK _ _ (stay_mk (hI.newC rfl).b) (hI.newC rfl))))
        case hend =>
          intro vA vB vC w3 hI
          have hoB := hI.eB _ rfl
          obtain ⟨gc, rfl, hgc, hgc2, hcc⟩ := hI.eC _ rfl
          have hb3 := hI.b
          simp only [frA, putO, Act.put, List.setIfInBounds_toArray, List.set_cons_zero, List.set_cons_succ]
          refine wpAnyH_all (rs := [7]) (by kernel_rfl) (by simp) (fun i' hi' => ?_)
          obtain rfl : i' = 7 := by simpa using hi'
          refine wpOp_step rfl (fun K' hK' => ?_)
          refine step_append_any _ rfl (.tmp 110) (.tmp 112) 28 rfl wo.heap.size 39 i0 (.agg zero9) 9 96 Try.underlying28 hii hz0 hz1 hz2 rfl (by decide) vB i (znR (m.zs.take i)) rfl hoB (some ⟨gc, 0, none⟩) 1 1 (znR [Zn.mk z.id (sel ok z.fr) (sel ok y.to) z.owner ep 0 0 z0 0]) rfl (fun h => (nomatch h)) rfl hcc (znR_one _) (by unfold maxLen; omega) (by omega) hb3.size ?_
          intro v' w4 hown hgrow
          have hb4 : Below wo.heap.size wo w4 := below_grown hb3 hb3.size hgrow (fun k hk => own_block hoB hk)
          rw [← znR_append] at hown
          refine hK' _ _ ⟨stay_mk hb4, ?_⟩
          clear hK' K'
          simp only [Act.put, List.setIfInBounds_toArray, List.set_cons_zero, List.set_cons_succ]
          refine wpAnyH_all (rs := [8]) (by kernel_rfl) (by simp) (fun i' hi' => ?_)
          obtain rfl : i' = 8 := by simpa using hi'
          refine wpOp_step rfl (fun K' hK' => ?_)
          go_simp
          refine hK' _ _ ⟨stay_mk hb4, ?_⟩
          clear hK' K'
          refine wpAnyH_done (by kernel_rfl) ?_ _
          refine NoPanic.normal ?_
          go_wp2_with fail
          go_meet
          exact ⟨hown, Lib.hid hb4⟩
      case rest =>
        obtain ⟨hown, Hb2⟩ := hcut
        obtain ⟨g2, cap2, rfl, hO⟩ := hown.shape (by omega)
        have HO := Lib.hid hO
        obtain ⟨l', hl'⟩ : ∃ l', l' = m.zs.take i ++ Zn.mk z.id (sel ok z.fr) (sel ok y.to) z.owner ep 0 0 z0 0 :: m.zs.drop (k + 1) := ⟨_, rfl⟩
        have hlen' : l'.length = i + 1 + (n - (k + 1)) := by
          have := Hn.out
          rw [hl', List.length_append, List.length_cons, List.length_take, List.length_drop, Nat.min_eq_left (by omega)]; omega
        have hdl : (znR (m.zs.drop (k + 1))).length = (n - (k + 1)) * 9 := by rw [znR_length, List.length_drop, ← Hn.out]
        have hnle : m.zs.length ≤ n := by rw [← Hn.out]; exact Nat.le_refl n
        have HLn := Lib.hid hlen'
        have HL := Lib.hid hl'
        have Hdl := Lib.hid hdl
        have hsz2 := Hb2.out.size
        have q1 := (Hb2.out.cell (p := ⟨p, 2, none⟩) sp).trans xp
        have q2 := (Hb2.out.frozen (p := ⟨p, 2, none⟩) sp).trans xpf
        have Hzc := Lib.hid (Hz.out.grow Hb2.out)
        clear hown hO hlen' hl' hdl x0 x1 x2 x3 x4 x5 x6 x7 x8 xp xpf
        by_cases hcc : zc = k + 1
        all_goals
          go_wp2_with (at_builtin; go_must (refine wpList_append_any _ rfl (.tmp 115) (.tmp 119) 28 rfl wo.heap.size 39 i0 (.agg zero9) 9 96 Try.underlying28 hii hz0 hz1 hz2 rfl (by decide) _ (i + 1) (znR (m.zs.take i ++ [Zn.mk z.id (sel ok z.fr) (sel ok y.to) z.owner ep 0 0 z0 0])) rfl HO.out (some _) (n - (k + 1)) _ (znR (m.zs.drop (k + 1))) rfl (fun h => (nomatch h)) Hdl.out (drop_cells Hzc.out (Below.refl _ _) (k + 1) _ (fun h => by first | rfl | (exfalso; omega))) (znR_one _) (by unfold maxLen; omega) (by omega) hsz2 ?_))
          intro v' w' hown' hgrow'
          have hbw' : Below wo.heap.size wo w' := below_grown Hb2.out hsz2 hgrow' (fun q hq => own_block HO.out hq)
          have hown2 : OwnV w' wo.heap.size v' (i + 1 + (n - (k + 1))) l' := by
            have e : znR l' = znR (m.zs.take i ++ [Zn.mk z.id (sel ok z.fr) (sel ok y.to) z.owner ep 0 0 z0 0]) ++ znR (m.zs.drop (k + 1)) := by rw [← znR_append, HL.out]; simp
            unfold OwnV
            rw [e]
            exact hown'
          obtain ⟨g3, cap3, rfl, hO3⟩ := hown2.shape (by omega)
          have q1' := (hbw'.cell (p := ⟨p, 2, none⟩) sp).trans ((Hb2.out.cell (p := ⟨p, 2, none⟩) sp).symm.trans q1)
          have q2' := (hbw'.frozen (p := ⟨p, 2, none⟩) sp).trans ((Hb2.out.frozen (p := ⟨p, 2, none⟩) sp).symm.trans q2)
          have HO3 : Hid (OwnZ w' wo.heap.size g3 cap3 l') := by
            have h3 := hO3
            unfold OwnV at h3
            rw [← HLn.out] at h3
            exact Lib.hid h3
          have hfin : Hid (St W (w'.setCell ⟨p, 2, none⟩ (.slice (some ⟨g3, 0, none⟩) (i + 1 + (n - (k + 1))) cap3)) (thDir 49 W.heap.size p g3 cap3 { m with zs := m.zs.take i ++ joinZ z y :: m.zs.drop (i + 2) } ho hl hc :: L)) := by
            have hj : joinZ z y = Zn.mk z.id (sel ok z.fr) (sel ok y.to) z.owner ep 0 0 z0 0 := by rw [Hok.out, Hep.out]; rfl
            rw [hj, show i + 2 = k + 1 by rw [Hk.out], ← HL.out]
            exact Lib.hid (HS.out.dirRow (keeps_same0 hbw' _) (HO3.out.weak HS.out.b.size) (.inr HO3.out.facts.1) _ HLn.out.symm)
          clear HO3 hown' hgrow' hbw' hO3 hown2
          go_wp2_with fail
          go_ret
          exact chPost_yes rfl hfin.out
end Go.Proofs.Ytobnibdeimiinaa
