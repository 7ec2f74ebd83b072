/- The contract of Apply. -/
import Derived.Test.YtobnibdeimiinaaDDo
import Derived.Test.YtobnibdeimiinaaDAb
import Derived.Test.YtobnibdeimiinaaDMv
import Derived.Test.YtobnibdeimiinaaDSp
import Derived.Test.YtobnibdeimiinaaDMg
import Derived.Test.YtobnibdeimiinaaMayC
import Derived.Laws.EntriesVeiled
namespace Go.Proofs.Ytobnibdeimiinaa
open Go.RowKit

theorem fz_some {l : List Zn} {n : Int} {i : Nat} (h : findZ l n = some i) : fz l n = i := by unfold fz; rw [h]
theorem fz_none {l : List Zn} {n : Int} (h : findZ l n = none) : fz l n = -1 := by unfold fz; rw [h]
theorem applyM_no {hosts : List Int} {m : Mp} {c : Ch} (h : ¬ (mayC c = true ∧ m.ver < 1099511627776)) : applyM hosts m c = none := by unfold applyM; rw [if_neg h]
theorem applyM_out {hosts : List Int} {m : Mp} {c : Ch} (h : findZ m.zs c.zone = none) : applyM hosts m c = none := by
  unfold applyM
  split
  · rw [h]
  · rfl
theorem applyM_at {hosts : List Int} {m : Mp} {c : Ch} (h1 : mayC c = true) (h2 : m.ver < 1099511627776) {i : Nat} {z : Zn} (h : findZ m.zs c.zone = some i) (hz : m.zs[i]? = some z) : applyM hosts m c = (changeM hosts m i z c).map fun x => { x with ver := x.ver + 1 } := by
  unfold applyM
  rw [if_pos ⟨h1, h2⟩, h]
  simp only [hz]
theorem mayC_kind {c : Ch} (h : mayC c = true) : c.kind = 1 ∨ c.kind = 2 ∨ c.kind = 3 ∨ c.kind = 4 ∨ c.kind = 5 := by
  unfold mayC at h
  rw [Bool.and_eq_true] at h
  have h := h.2
  split at h
  · exact .inl (by assumption)
  · split at h
    · exact .inr (.inl (by assumption))
    · split at h
      · exact .inr (.inr (.inl (by assumption)))
      · split at h
        · rename_i h4; rcases h4 with h4 | h4
          · exact .inr (.inr (.inr (.inl h4)))
          · exact .inr (.inr (.inr (.inr h4)))
        · cases h
theorem find_gr {g zc : Nat} {l : List Zn} {w wa : World} (h : ZnAt w g l) (hm : l.length ≤ 1000) (ver next id : Int) (b : Below w.heap.size w wa) (g1 : Gr wa) :
    Calls Try.prog 38 #[.agg #[.int .i64 ver, .int .i64 next, .slice (some ⟨g, 0, none⟩) l.length zc], .int .i64 id] (gr wa g1) fun e w' => e = .returned (.int .i64 (fz l id)) ∧ Below (gr wa g1).heap.size (gr wa g1) w' := find_any ((h.grow b).grow (gr_below wa g1)) hm ver next id
set_option maxRecDepth 20000 in
set_option maxHeartbeats 4000000 in
theorem apply_any {W w : World} {L : List Th} {p g zc : Nat} {m : Mp} {ho : Option Addr} {hc : Nat} {hosts : List Int} (h : St W w (thDir 76 W.heap.size p g zc m ho hosts.length hc :: L)) (hI : Inv m) (hh : IAtD w ho hosts) (hhm : hosts.length ≤ 1000) (c : Ch) :
    Calls Try.prog 15 #[.pointer (some ⟨p, 0, none⟩), .agg #[.int .i64 c.kind, .int .i64 c.zone, .int .i64 c.epoch, .int .i64 c.tt, .string c.key]] w (ChPost 76 W p m ho hosts.length hc L (applyM hosts m c)) := by
  obtain ⟨hp, c0, c1, c2, c3, hf⟩ := dir_cells h.head
  have hm := hI.len
  have Hz := Lib.hid h.head.2.1.at
  have H := Lib.hid h
  have HI := Lib.hid hI
  have Hh := Lib.hid hh
  have Hhm := Lib.hid hhm
  clear h hI hh hhm
  cases hmc : mayC c with
  | false =>
    have HR : Hid (applyM hosts m c = none) := Lib.hid (applyM_no (by rw [hmc]; simp))
    have Hmc := Lib.hid (fun w => mayC_any c w false hmc)
    clear hmc c0 c1 c2 c3 hf
    go_enter Try.func15, Try.ntmps15
    go_wp2_with fail
    (refine calls_name fun wa hwa => ?_; have wa_s0 : p < wa.heap.size := (by rw [hwa]; first | omega | (simp; done) | (simp; omega)); have wa_b : Below w.heap.size w wa := (by rw [hwa]; exact (by repeat (first | with_reducible exact Below.refl _ _ | with_reducible assumption | with_reducible refine Below.drew ?_ | with_reducible refine below_drawn ?_ | with_reducible refine Below.alloc ?_ (by first | omega | (simp; done) | (simp; omega) | (simp at *; omega)) _ | with_reducible refine Below.setCell ?_ (by first | omega | (simp; done) | (simp; omega) | (simp at *; omega)) _ | with_reducible refine Below.trans ?_ (Below.mono (by assumption) (by first | omega | (simp; done) | (simp; omega) | (simp at *; omega)))))); clear hwa)
    refine (Hmc.out _).mono ?_
    (rintro e w1 ⟨rfl, w1_h⟩; obtain ⟨w1_hc, w1_hf⟩ := bcell w1_h; have w1_z := w1_h.size; have w1_b := wa_b.trans (w1_h.mono (by have := wa_b.size; omega)); have w1_le := w1_b.size; have w1_s0 : p < w1.heap.size := (by omega); clear w1_h)
    go_wp2_with fail
    go_ret
    exact chPost_no H.out HR.out (by repeat (first | with_reducible exact Below.refl _ _ | with_reducible assumption | with_reducible refine Below.drew ?_ | with_reducible refine below_drawn ?_ | with_reducible refine Below.alloc ?_ (by first | omega | (simp; done) | (simp; omega) | (simp at *; omega)) _ | with_reducible refine Below.setCell ?_ (by first | omega | (simp; done) | (simp; omega) | (simp at *; omega)) _ | with_reducible refine Below.trans ?_ (Below.mono (by assumption) (by first | omega | (simp; done) | (simp; omega) | (simp at *; omega)))))
  | true =>
    have Hmc := Lib.hid (fun w => mayC_any c w true hmc)
    have hk := mayC_kind hmc
    have Hmt := Lib.hid hmc
    clear hmc
    by_cases hv : m.ver < 1099511627776
    · have e1 : decide (1099511627776 ≤ m.ver) = false := by rw [decide_eq_false_iff_not]; omega
      obtain ⟨n, hn⟩ : ∃ n, n = m.zs.length := ⟨_, rfl⟩
      obtain ⟨at_, hat⟩ : ∃ at_, at_ = fz m.zs c.zone := ⟨_, rfl⟩
      have Hfd := Lib.hid (fun (w3 : World) (hb : Below w.heap.size w w3) (g1 : Gr w3) => find_gr (zc := zc) Hz.out (show m.zs.length ≤ 1000 by omega) m.ver m.next c.zone hb g1)
      rw [← hat, ← hn] at Hfd
      have Hat := Lib.hid hat
      have Hn := Lib.hid hn
      rw [← hn] at c2 hm
      clear hat hn
      go_enter Try.func15, Try.ntmps15
      go_wp2_with fail
      (refine calls_name fun wa hwa => ?_; have wa_s0 : p < wa.heap.size := (by rw [hwa]; first | omega | (simp; done) | (simp; omega)); have wa_s1 : w.heap.size < wa.heap.size := (by rw [hwa]; first | omega | (simp; done) | (simp; omega)); have wa_c0 : wa.cell? ⟨p, 0, none⟩ = some (.int .i64 m.ver) := (by rw [hwa]; go_simp); have wa_c1 : wa.cell? ⟨p, 1, none⟩ = some (.int .i64 m.next) := (by rw [hwa]; go_simp); have wa_c2 : wa.cell? ⟨p, 2, none⟩ = some (.slice (some ⟨g, 0, none⟩) n zc) := (by rw [hwa]; go_simp); have wa_c3 : wa.cell? ⟨w.heap.size, 0, none⟩ = some (.int .i64 c.kind) := (by rw [hwa]; go_simp); have wa_c4 : wa.cell? ⟨w.heap.size, 1, none⟩ = some (.int .i64 c.zone) := (by rw [hwa]; go_simp); have wa_c5 : wa.cell? ⟨w.heap.size, 2, none⟩ = some (.int .i64 c.epoch) := (by rw [hwa]; go_simp); have wa_c6 : wa.cell? ⟨w.heap.size, 3, none⟩ = some (.int .i64 c.tt) := (by rw [hwa]; go_simp); have wa_c7 : wa.cell? ⟨w.heap.size, 4, none⟩ = some (.string c.key) := (by rw [hwa]; go_simp); have wa_b : Below w.heap.size w wa := (by rw [hwa]; exact (by repeat (first | with_reducible exact Below.refl _ _ | with_reducible assumption | with_reducible refine Below.drew ?_ | with_reducible refine below_drawn ?_ | with_reducible refine Below.alloc ?_ (by first | omega | (simp; done) | (simp; omega) | (simp at *; omega)) _ | with_reducible refine Below.setCell ?_ (by first | omega | (simp; done) | (simp; omega) | (simp at *; omega)) _ | with_reducible refine Below.trans ?_ (Below.mono (by assumption) (by first | omega | (simp; done) | (simp; omega) | (simp at *; omega)))))); clear hwa)
      refine (Hmc.out _).mono ?_
      (rintro e w1 ⟨rfl, w1_h⟩; obtain ⟨w1_hc, w1_hf⟩ := bcell w1_h; have w1_z := w1_h.size; have w1_b := wa_b.trans (w1_h.mono (by have := wa_b.size; omega)); have w1_le := w1_b.size; have w1_s0 : p < w1.heap.size := (by omega); have w1_s1 : w.heap.size < w1.heap.size := (by omega); clear w1_h)
      go_wp2_with fail
      (refine wp_name fun wb hwb => ?_; have wb_s0 : p < wb.heap.size := (by rw [hwb]; first | omega | (simp; done) | (simp; omega)); have wb_s1 : w.heap.size < wb.heap.size := (by rw [hwb]; first | omega | (simp; done) | (simp; omega)); have wb_c0 : wb.cell? ⟨p, 0, none⟩ = some (.int .i64 m.ver) := (by rw [hwb]; go_simp); have wb_c1 : wb.cell? ⟨p, 1, none⟩ = some (.int .i64 m.next) := (by rw [hwb]; go_simp); have wb_c2 : wb.cell? ⟨p, 2, none⟩ = some (.slice (some ⟨g, 0, none⟩) n zc) := (by rw [hwb]; go_simp); have wb_c3 : wb.cell? ⟨w.heap.size, 0, none⟩ = some (.int .i64 c.kind) := (by rw [hwb]; go_simp); have wb_c4 : wb.cell? ⟨w.heap.size, 1, none⟩ = some (.int .i64 c.zone) := (by rw [hwb]; go_simp); have wb_c5 : wb.cell? ⟨w.heap.size, 2, none⟩ = some (.int .i64 c.epoch) := (by rw [hwb]; go_simp); have wb_c6 : wb.cell? ⟨w.heap.size, 3, none⟩ = some (.int .i64 c.tt) := (by rw [hwb]; go_simp); have wb_c7 : wb.cell? ⟨w.heap.size, 4, none⟩ = some (.string c.key) := (by rw [hwb]; go_simp); have wb_b : Below w.heap.size w wb := (by rw [hwb]; exact (by repeat (first | with_reducible exact Below.refl _ _ | with_reducible assumption | with_reducible refine Below.drew ?_ | with_reducible refine below_drawn ?_ | with_reducible refine Below.alloc ?_ (by first | omega | (simp; done) | (simp; omega) | (simp at *; omega)) _ | with_reducible refine Below.setCell ?_ (by first | omega | (simp; done) | (simp; omega) | (simp at *; omega)) _ | with_reducible refine Below.trans ?_ (Below.mono (by assumption) (by first | omega | (simp; done) | (simp; omega) | (simp at *; omega)))))); clear hwb)
      (refine wp_region_gr (by kernel_rfl) (by kernel_rfl) ?_; (repeat (go_big_quiet_step (first | (go_at_call 38; exact calls_gr (Hfd.out _ wb_b _)) | fail))); refine wpQuiet_nil ?_; intro _ hw'; obtain ⟨g1, hw''⟩ := hw'; subst hw'')
      have hgb := gr_below wb g1
      have hgs := gr_le wb g1
      have wb_le := wb_b.size
      go_wp2_with fail
      have yp : p < (gr wb g1).heap.size := by omega
      have yn : w.heap.size < (gr wb g1).heap.size := by omega
      (refine wp_name fun wd hwd => ?_; have wd_s0 : p < wd.heap.size := (by rw [hwd]; first | omega | (simp; done) | (simp; omega)); have wd_s1 : w.heap.size < wd.heap.size := (by rw [hwd]; first | omega | (simp; done) | (simp; omega)); have wd_s2 : (gr wb g1).heap.size < wd.heap.size := (by rw [hwd]; first | omega | (simp; done) | (simp; omega)); have wd_c0 : wd.cell? ⟨w.heap.size, 0, none⟩ = some (.int .i64 c.kind) := (by rw [hwd]; go_simp); have wd_c1 : wd.cell? ⟨w.heap.size, 1, none⟩ = some (.int .i64 c.zone) := (by rw [hwd]; go_simp); have wd_c2 : wd.cell? ⟨w.heap.size, 2, none⟩ = some (.int .i64 c.epoch) := (by rw [hwd]; go_simp); have wd_c3 : wd.cell? ⟨w.heap.size, 3, none⟩ = some (.int .i64 c.tt) := (by rw [hwd]; go_simp); have wd_c4 : wd.cell? ⟨w.heap.size, 4, none⟩ = some (.string c.key) := (by rw [hwd]; go_simp); have wd_c5 : wd.cell? ⟨(gr wb g1).heap.size, 1, none⟩ = some (.func (.func 39) #[] #[]) := (by rw [hwd]; go_simp); have wd_c6 : wd.cell? ⟨(gr wb g1).heap.size, 2, none⟩ = some (.func (.func 40) #[] #[]) := (by rw [hwd]; go_simp); have wd_c7 : wd.cell? ⟨(gr wb g1).heap.size, 3, none⟩ = some (.func (.func 41) #[] #[]) := (by rw [hwd]; go_simp); have wd_c8 : wd.cell? ⟨(gr wb g1).heap.size, 4, none⟩ = some (.func (.func 42) #[] #[]) := (by rw [hwd]; go_simp); have wd_c9 : wd.cell? ⟨(gr wb g1).heap.size, 5, none⟩ = some (.func (.func 43) #[] #[]) := (by rw [hwd]; go_simp); have wd_b : Below w.heap.size w wd := (by rw [hwd]; exact (by repeat (first | with_reducible exact Below.refl _ _ | with_reducible assumption | with_reducible refine Below.drew ?_ | with_reducible refine below_drawn ?_ | with_reducible refine Below.alloc ?_ (by first | omega | (simp; done) | (simp; omega) | (simp at *; omega)) _ | with_reducible refine Below.setCell ?_ (by first | omega | (simp; done) | (simp; omega) | (simp at *; omega)) _ | with_reducible refine Below.trans ?_ (Below.mono (by assumption) (by first | omega | (simp; done) | (simp; omega) | (simp at *; omega)))))); clear hwd)
      have HS := Lib.hid (H.out.grow wd_b)
      have Hhd := Lib.hid (Hh.out.grow wd_b)
      have wd_le := wd_b.size
      have Hwd := Lib.hid wd_b
      obtain ⟨N, hN⟩ : ∃ N, N = (gr wb g1).heap.size := ⟨_, rfl⟩
      rw [← hN] at wd_s2 wd_c5 wd_c6 wd_c7 wd_c8 wd_c9 ⊢
      clear hN hgb hgs yp yn wd_b wb_c0 wb_c1 wb_c2 wb_c3 wb_c4 wb_c5 wb_c6 wb_c7 wb_b wb_le wb_s0 wb_s1 w1_hc w1_hf wa_c0 wa_c1 wa_c2 wa_c3 wa_c4 wa_c5 wa_c6 wa_c7 wa_b wa_s0 wa_s1 c0 c1 c2 c3 hf w1_s0 w1_s1 w1_b w1_z w1_le
      cases hfz : findZ m.zs c.zone with
      | none =>
        have HR : Hid (applyM hosts m c = none) := Lib.hid (applyM_out hfz)
        obtain rfl : at_ = -1 := by rw [Hat.out]; exact fz_none hfz
        clear hfz hk
        (refine wp_region_gr (by kernel_rfl) (by kernel_rfl) ?_; (repeat (go_big_quiet_step (fail))); refine wpQuiet_nil ?_; intro _ hw'; obtain ⟨g2, hw''⟩ := hw'; subst hw'')
        go_wp2_with fail
        go_ret
        exact chPost_no HS.out HR.out (gr_below wd g2)
      | some i =>
        obtain ⟨z, hz, -, -⟩ := find_some hfz
        obtain rfl : at_ = (i : Int) := by rw [Hat.out]; exact fz_some hfz
        obtain ⟨r, hr⟩ : ∃ r, r = changeM hosts m i z c := ⟨_, rfl⟩
        have HR : Hid (applyM hosts m c = r.map fun x => { x with ver := x.ver + 1 }) := by rw [hr]; exact Lib.hid (applyM_at Hmt.out hv hfz hz)
        have HV : Hid (∀ x, r = some x → x.ver = m.ver) := fun x e => change_ver (by rw [← hr]; exact e)
        have h0i : (0 : Int) ≤ i := by omega
        have hneg : decide ((i : Int) < 0) = false := by rw [decide_eq_false_iff_not]; omega
        have Hz2 := Lib.hid hz
        have HCR := Lib.hid hr
        have Hfz := Lib.hid hfz
        clear hfz hz hr Hat
        rcases hk with hk | hk | hk | hk | hk
        · have hv0 : 1 ≤ m.ver := HI.out.ver.1
          (have Hk := Lib.hid hk); (have hcall : Hid (∀ w3, Below wd.heap.size wd w3 → Calls Try.prog 39 #[.pointer (some ⟨p, 0, none⟩), .int .i64 i, .agg #[.int .i64 c.kind, .int .i64 c.zone, .int .i64 c.epoch, .int .i64 c.tt, .string c.key]] w3 (ChPost 76 W p m ho hosts.length hc L r)) := (by intro w3 hb3; have S3 := HS.out.grow hb3; have Hh3 := Hhd.out.grow hb3; rw [HCR.out, changeM, if_pos Hk.out]; exact (split_any S3 HI.out.len (by have := HI.out.next; omega) i z Hz2.out c))); (rw [hk] at wd_c0); clear hk; (go_still_tail 10, (by kernel_rfl)); (change wpList _ _ _ _ _ (World.drew _)); (go_wp2_with fail); (have hc2 := hcall.out _ (Below.refl wd.heap.size wd).drew); (rw [Hk.out] at hc2); (refine hc2.mono ?_); clear hc2 hcall; (rintro e W' ⟨g', zc', rfl, hS'⟩); (cases r with | none => (go_wp2_with fail; go_ret; rw [HR.out]; exact ⟨g', zc', rfl, hS'⟩) | some x => ((have hx := HV.out x rfl); (have hS2 : Hid (St W W' (thDir 76 W.heap.size p g' zc' x ho hosts.length hc :: L)) := hS'); (obtain ⟨hp', c0', -, -, -, hf'⟩ := dir_cells hS2.out.head); (rw [hx] at c0'); (have hf0 := hf' 0); clear hf' hS'; (have Hx := Lib.hid hx); clear hx; go_wp2_with fail; go_ret; rw [HR.out]; exact ⟨g', zc', rfl, by have := hS2.out.dirVer (m.ver + 1); rw [← Hx.out] at this; rw [← Hx.out]; exact this⟩))
        · have hv0 : 1 ≤ m.ver := HI.out.ver.1
          (have Hk := Lib.hid hk); (have hcall : Hid (∀ w3, Below wd.heap.size wd w3 → Calls Try.prog 40 #[.pointer (some ⟨p, 0, none⟩), .int .i64 i, .agg #[.int .i64 c.kind, .int .i64 c.zone, .int .i64 c.epoch, .int .i64 c.tt, .string c.key]] w3 (ChPost 76 W p m ho hosts.length hc L r)) := (by intro w3 hb3; have S3 := HS.out.grow hb3; have Hh3 := Hhd.out.grow hb3; rw [HCR.out, changeM, if_neg (by rw [Hk.out]; decide), if_pos Hk.out]; exact (merge_any S3 HI.out.len i z Hz2.out c))); (rw [hk] at wd_c0); clear hk; (go_still_tail 10, (by kernel_rfl)); (change wpList _ _ _ _ _ (World.drew _)); (go_wp2_with fail); (have hc2 := hcall.out _ (Below.refl wd.heap.size wd).drew); (rw [Hk.out] at hc2); (refine hc2.mono ?_); clear hc2 hcall; (rintro e W' ⟨g', zc', rfl, hS'⟩); (cases r with | none => (go_wp2_with fail; go_ret; rw [HR.out]; exact ⟨g', zc', rfl, hS'⟩) | some x => ((have hx := HV.out x rfl); (have hS2 : Hid (St W W' (thDir 76 W.heap.size p g' zc' x ho hosts.length hc :: L)) := hS'); (obtain ⟨hp', c0', -, -, -, hf'⟩ := dir_cells hS2.out.head); (rw [hx] at c0'); (have hf0 := hf' 0); clear hf' hS'; (have Hx := Lib.hid hx); clear hx; go_wp2_with fail; go_ret; rw [HR.out]; exact ⟨g', zc', rfl, by have := hS2.out.dirVer (m.ver + 1); rw [← Hx.out] at this; rw [← Hx.out]; exact this⟩))
        · have hv0 : 1 ≤ m.ver := HI.out.ver.1
          (have Hk := Lib.hid hk); (have hcall : Hid (∀ w3, Below wd.heap.size wd w3 → Calls Try.prog 41 #[.pointer (some ⟨p, 0, none⟩), .int .i64 i, .agg #[.int .i64 c.kind, .int .i64 c.zone, .int .i64 c.epoch, .int .i64 c.tt, .string c.key]] w3 (ChPost 76 W p m ho hosts.length hc L r)) := (by intro w3 hb3; have S3 := HS.out.grow hb3; have Hh3 := Hhd.out.grow hb3; rw [HCR.out, changeM, if_neg (by rw [Hk.out]; decide), if_neg (by rw [Hk.out]; decide), if_pos Hk.out]; exact (move_any S3 HI.out.len Hh3 Hhm.out i z Hz2.out c))); (rw [hk] at wd_c0); clear hk; (go_still_tail 10, (by kernel_rfl)); (change wpList _ _ _ _ _ (World.drew _)); (go_wp2_with fail); (have hc2 := hcall.out _ (Below.refl wd.heap.size wd).drew); (rw [Hk.out] at hc2); (refine hc2.mono ?_); clear hc2 hcall; (rintro e W' ⟨g', zc', rfl, hS'⟩); (cases r with | none => (go_wp2_with fail; go_ret; rw [HR.out]; exact ⟨g', zc', rfl, hS'⟩) | some x => ((have hx := HV.out x rfl); (have hS2 : Hid (St W W' (thDir 76 W.heap.size p g' zc' x ho hosts.length hc :: L)) := hS'); (obtain ⟨hp', c0', -, -, -, hf'⟩ := dir_cells hS2.out.head); (rw [hx] at c0'); (have hf0 := hf' 0); clear hf' hS'; (have Hx := Lib.hid hx); clear hx; go_wp2_with fail; go_ret; rw [HR.out]; exact ⟨g', zc', rfl, by have := hS2.out.dirVer (m.ver + 1); rw [← Hx.out] at this; rw [← Hx.out]; exact this⟩))
        · have hv0 : 1 ≤ m.ver := HI.out.ver.1
          (have Hk := Lib.hid hk); (have hcall : Hid (∀ w3, Below wd.heap.size wd w3 → Calls Try.prog 42 #[.pointer (some ⟨p, 0, none⟩), .int .i64 i, .agg #[.int .i64 c.kind, .int .i64 c.zone, .int .i64 c.epoch, .int .i64 c.tt, .string c.key]] w3 (ChPost 76 W p m ho hosts.length hc L r)) := (by intro w3 hb3; have S3 := HS.out.grow hb3; have Hh3 := Hhd.out.grow hb3; rw [HCR.out, changeM, if_neg (by rw [Hk.out]; decide), if_neg (by rw [Hk.out]; decide), if_neg (by rw [Hk.out]; decide), if_pos Hk.out]; exact (done_any S3 HI.out.len HI.out.ok i z Hz2.out c))); (rw [hk] at wd_c0); clear hk; (go_still_tail 10, (by kernel_rfl)); (change wpList _ _ _ _ _ (World.drew _)); (go_wp2_with fail); (have hc2 := hcall.out _ (Below.refl wd.heap.size wd).drew); (rw [Hk.out] at hc2); (refine hc2.mono ?_); clear hc2 hcall; (rintro e W' ⟨g', zc', rfl, hS'⟩); (cases r with | none => (go_wp2_with fail; go_ret; rw [HR.out]; exact ⟨g', zc', rfl, hS'⟩) | some x => ((have hx := HV.out x rfl); (have hS2 : Hid (St W W' (thDir 76 W.heap.size p g' zc' x ho hosts.length hc :: L)) := hS'); (obtain ⟨hp', c0', -, -, -, hf'⟩ := dir_cells hS2.out.head); (rw [hx] at c0'); (have hf0 := hf' 0); clear hf' hS'; (have Hx := Lib.hid hx); clear hx; go_wp2_with fail; go_ret; rw [HR.out]; exact ⟨g', zc', rfl, by have := hS2.out.dirVer (m.ver + 1); rw [← Hx.out] at this; rw [← Hx.out]; exact this⟩))
        · have hv0 : 1 ≤ m.ver := HI.out.ver.1
          (have Hk := Lib.hid hk); (have hcall : Hid (∀ w3, Below wd.heap.size wd w3 → Calls Try.prog 43 #[.pointer (some ⟨p, 0, none⟩), .int .i64 i, .agg #[.int .i64 c.kind, .int .i64 c.zone, .int .i64 c.epoch, .int .i64 c.tt, .string c.key]] w3 (ChPost 76 W p m ho hosts.length hc L r)) := (by intro w3 hb3; have S3 := HS.out.grow hb3; have Hh3 := Hhd.out.grow hb3; rw [HCR.out, changeM, if_neg (by rw [Hk.out]; decide), if_neg (by rw [Hk.out]; decide), if_neg (by rw [Hk.out]; decide), if_neg (by rw [Hk.out]; decide)]; exact (abort_any S3 i z Hz2.out (HI.out.ok z (List.mem_of_getElem? Hz2.out)).2.2.1 c))); (rw [hk] at wd_c0); clear hk; (go_still_tail 10, (by kernel_rfl)); (change wpList _ _ _ _ _ (World.drew _)); (go_wp2_with fail); (have hc2 := hcall.out _ (Below.refl wd.heap.size wd).drew); (rw [Hk.out] at hc2); (refine hc2.mono ?_); clear hc2 hcall; (rintro e W' ⟨g', zc', rfl, hS'⟩); (cases r with | none => (go_wp2_with fail; go_ret; rw [HR.out]; exact ⟨g', zc', rfl, hS'⟩) | some x => ((have hx := HV.out x rfl); (have hS2 : Hid (St W W' (thDir 76 W.heap.size p g' zc' x ho hosts.length hc :: L)) := hS'); (obtain ⟨hp', c0', -, -, -, hf'⟩ := dir_cells hS2.out.head); (rw [hx] at c0'); (have hf0 := hf' 0); clear hf' hS'; (have Hx := Lib.hid hx); clear hx; go_wp2_with fail; go_ret; rw [HR.out]; exact ⟨g', zc', rfl, by have := hS2.out.dirVer (m.ver + 1); rw [← Hx.out] at this; rw [← Hx.out]; exact this⟩))
    · have e1 : decide (1099511627776 ≤ m.ver) = true := by rw [decide_eq_true_eq]; omega
      have HR : Hid (applyM hosts m c = none) := Lib.hid (applyM_no (by intro hx; exact hv hx.2))
      clear c1 c2 c3 hf hk hv
      go_enter Try.func15, Try.ntmps15
      go_wp2_with fail
      (refine calls_name fun wa hwa => ?_; have wa_s0 : p < wa.heap.size := (by rw [hwa]; first | omega | (simp; done) | (simp; omega)); have wa_c0 : wa.cell? ⟨p, 0, none⟩ = some (.int .i64 m.ver) := (by rw [hwa]; go_simp); have wa_b : Below w.heap.size w wa := (by rw [hwa]; exact (by repeat (first | with_reducible exact Below.refl _ _ | with_reducible assumption | with_reducible refine Below.drew ?_ | with_reducible refine below_drawn ?_ | with_reducible refine Below.alloc ?_ (by first | omega | (simp; done) | (simp; omega) | (simp at *; omega)) _ | with_reducible refine Below.setCell ?_ (by first | omega | (simp; done) | (simp; omega) | (simp at *; omega)) _ | with_reducible refine Below.trans ?_ (Below.mono (by assumption) (by first | omega | (simp; done) | (simp; omega) | (simp at *; omega)))))); clear hwa)
      refine (Hmc.out _).mono ?_
      (rintro e w1 ⟨rfl, w1_h⟩; obtain ⟨w1_hc, w1_hf⟩ := bcell w1_h; have w1_z := w1_h.size; have w1_b := wa_b.trans (w1_h.mono (by have := wa_b.size; omega)); have w1_le := w1_b.size; have w1_s0 : p < w1.heap.size := (by omega); clear w1_h)
      go_wp2_with fail
      go_ret
      exact chPost_no H.out HR.out (by repeat (first | with_reducible exact Below.refl _ _ | with_reducible assumption | with_reducible refine Below.drew ?_ | with_reducible refine below_drawn ?_ | with_reducible refine Below.alloc ?_ (by first | omega | (simp; done) | (simp; omega) | (simp at *; omega)) _ | with_reducible refine Below.setCell ?_ (by first | omega | (simp; done) | (simp; omega) | (simp at *; omega)) _ | with_reducible refine Below.trans ?_ (Below.mono (by assumption) (by first | omega | (simp; done) | (simp; omega) | (simp at *; omega)))))
end Go.Proofs.Ytobnibdeimiinaa
