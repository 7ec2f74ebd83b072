/- The contracts of the document's Apply and Would. -/
import Derived.Test.YtobnibdeimiinaaRCa
import Derived.Test.YtobnibdeimiinaaRMy
import Derived.Test.YtobnibdeimiinaaRMc
import Derived.Test.YtobnibdeimiinaaRd
import Derived.Test.YtobnibdeimiinaaDWo
namespace Go.Proofs.Ytobnibdeimiinaa
open Go.RowKit

theorem changeR_len {hosts : List Int} {m x : Mp} {i : Nat} {z : Zn} {c : Ch} (h : changeR hosts m i z c = some x) (hi : i < m.zs.length) : x.zs.length ≤ m.zs.length + 1 ∧ x.ver = m.ver := by
  unfold changeR splitM mergeM moveM doneR abortM at h
  repeat' split at h
  all_goals first | (cases h; done) | (simp only [Option.some.injEq] at h; subst h; refine ⟨?_, rfl⟩; simp only [List.length_set, List.length_append, List.length_cons, List.length_take, List.length_drop]; omega)
/-- The map as it was is laid back. -/
theorem St.dirBack {ty : TypeId} {W w : World} {p g zc g' c' B : Nat} {m m' : Mp} {ho : Option Addr} {hl hc : Nat} {o : Obj} {L : List Th} (h : St W w (thDir ty W.heap.size p g zc m' ho hl hc :: thObj B o :: thZ W.heap.size g' c' m.zs :: L)) :
    St W (((w.setCell ⟨p, 0, none⟩ (.int .i64 m.ver)).setCell ⟨p, 1, none⟩ (.int .i64 m.next)).setCell ⟨p, 2, none⟩ (.slice (some ⟨g', 0, none⟩) m.zs.length c')) (thDir ty W.heap.size p g' c' m ho hl hc :: L) := by
  have k : Keeps w (((w.setCell ⟨p, 0, none⟩ (.int .i64 m.ver)).setCell ⟨p, 1, none⟩ (.int .i64 m.next)).setCell ⟨p, 2, none⟩ (.slice (some ⟨g', 0, none⟩) m.zs.length c')) (fun x => x = p) := by
    refine ((Keeps.set w ⟨p, 0, none⟩ _).trans (Keeps.set _ ⟨p, 1, none⟩ _) (fun _ e => e) (fun _ _ e => e)).trans (Keeps.set _ ⟨p, 2, none⟩ _) (fun _ e => e) (fun _ _ e => e)
  have h1 : St W w (thZ W.heap.size g' c' m.zs :: thDir ty W.heap.size p g zc m' ho hl hc :: thObj B o :: L) := h.pull (A := [_, _])
  have hne : g' ≠ p := fun e => h1.t.2.2.1 _ (List.mem_cons_self ..) g' rfl (.inl e)
  have hz := h1.head
  have hd := h.head
  refine ⟨h.b.trans (k.below (fun x e => h.t.2.1 x (.inl e)) h.b.size), ⟨?_, hz.keeps k hne, hne⟩, fun x e => ?_, fun u hu x hx hux => ?_, ?_⟩
  · have := set_obj (set_obj (set_obj hd.1 0 (.int .i64 m.ver)) 1 (.int .i64 m.next)) 2 (.slice (some ⟨g', 0, none⟩) m.zs.length c')
    simpa [dirCells] using this
  · rcases e with e | e
    · exact h.t.2.1 x (.inl e)
    · exact h1.t.2.1 x e
  · rcases hx with e | e
    · exact h.t.2.2.1 u (by simp [hu]) x (.inl e) hux
    · exact h1.t.2.2.1 u (by simp [hu]) x e hux
  · exact h.t.2.2.2.2.2.2.2.2.2.keep k (fun u hu x hux e => h.t.2.2.1 u (by simp [hu]) x (.inl e) hux)
theorem rfind_gr {g zc : Nat} {l : List Zn} {w wa : World} (h : ZnAt w g l) (hm : l.length ≤ 1000) (id : Int) (b : Below w.heap.size w wa) (g1 : Gr wa) :
    Calls Try.prog 47 #[.slice (some ⟨g, 0, none⟩) l.length zc, .int .i64 id] (gr wa g1) fun e w' => e = .returned (.int .i64 (fz l id)) ∧ Below (gr wa g1).heap.size (gr wa g1) w' := rfind_any ((h.grow b).grow (gr_below wa g1)) hm id
set_option maxRecDepth 20000 in
set_option maxHeartbeats 4000000 in
theorem rapply_any {W w : World} {L : List Th} {p g zc : Nat} {m : Mp} {ho : Option Addr} {hc : Nat} {hosts : List Int} (h : St W w (thDir 49 W.heap.size p g zc m ho hosts.length hc :: L)) (hI : Inv m) (hh : IAtD w ho hosts) (hhm : hosts.length ≤ 1000) (hhi : ∀ n ∈ hosts, 1 ≤ n ∧ n ≤ 1048576) (c : Ch) :
    Calls Try.prog 20 #[.pointer (some ⟨p, 0, none⟩), .agg #[.int .i64 c.kind, .int .i64 c.zone, .int .i64 c.epoch, .int .i64 c.tt, .string c.key]] w (ChPost 49 W p m ho hosts.length hc L (applyM hosts m c)) := by
  obtain ⟨hp, c0, c1, c2, c3, hf⟩ := dir_cells h.head
  have hm := hI.len
  have hpos := hI.pos
  have Hz := Lib.hid h.head.2.1.at
  have H := Lib.hid h
  have HI := Lib.hid hI
  have Hh := Lib.hid hh
  have Hhm := Lib.hid hhm
  have Hhi := Lib.hid hhi
  obtain ⟨n, hn⟩ : ∃ n, n = m.zs.length := ⟨_, rfl⟩
  obtain ⟨at_, hat⟩ : ∃ at_, at_ = fz m.zs c.zone := ⟨_, rfl⟩
  have Hfd := Lib.hid (fun (w3 : World) (hb : Below w.heap.size w w3) (g1 : Gr w3) => rfind_gr (zc := zc) Hz.out (show m.zs.length ≤ 1000 by omega) c.zone hb g1)
  rw [← hat, ← hn] at Hfd
  have Hat := Lib.hid hat
  have Hn := Lib.hid hn
  rw [← hn] at c2 hm hpos
  clear h hI hh hhm hhi hat hn hf c3
  cases hmc : mayC c with
  | false =>
    have HR : Hid (applyM hosts m c = none) := Lib.hid (applyM_no (by rw [hmc]; simp))
    have Hmc := Lib.hid (fun w => rmayC_any c w false hmc)
    clear hmc
    (go_enter Try.func20, Try.ntmps20; (go_wp2_with fail); (refine wp_name fun wa hwa => ?_; have wa_s0 : p < wa.heap.size := (by rw [hwa]; first | omega | (simp; done) | (simp; omega)); have wa_s1 : w.heap.size < wa.heap.size := (by rw [hwa]; first | omega | (simp; done) | (simp; omega)); have wa_c0 : wa.cell? ⟨p, 0, none⟩ = some (.int .i64 m.ver) := (by rw [hwa]; go_simp); have wa_c1 : wa.cell? ⟨p, 1, none⟩ = some (.int .i64 m.next) := (by rw [hwa]; go_simp); have wa_c2 : wa.cell? ⟨p, 2, none⟩ = some (.slice (some ⟨g, 0, none⟩) n zc) := (by rw [hwa]; go_simp); have wa_c3 : wa.cell? ⟨w.heap.size, 0, none⟩ = some (.int .i64 c.kind) := (by rw [hwa]; go_simp); have wa_c4 : wa.cell? ⟨w.heap.size, 1, none⟩ = some (.int .i64 c.zone) := (by rw [hwa]; go_simp); have wa_c5 : wa.cell? ⟨w.heap.size, 2, none⟩ = some (.int .i64 c.epoch) := (by rw [hwa]; go_simp); have wa_c6 : wa.cell? ⟨w.heap.size, 3, none⟩ = some (.int .i64 c.tt) := (by rw [hwa]; go_simp); have wa_c7 : wa.cell? ⟨w.heap.size, 4, none⟩ = some (.string c.key) := (by rw [hwa]; go_simp); have wa_b : Below w.heap.size w wa := (by rw [hwa]; exact (by repeat (first | with_reducible exact Below.refl _ _ | with_reducible assumption | with_reducible refine Below.drew ?_ | with_reducible refine below_drawn ?_ | with_reducible refine Below.alloc ?_ (by first | omega | (simp; done) | (simp; omega) | (simp at *; omega)) _ | with_reducible refine Below.setCell ?_ (by first | omega | (simp; done) | (simp; omega) | (simp at *; omega)) _ | with_reducible refine Below.trans ?_ (Below.mono (by assumption) (by first | omega | (simp; done) | (simp; omega) | (simp at *; omega)))))); clear hwa); (refine wp_region_gr (by kernel_rfl) (by kernel_rfl) ?_; (repeat (go_big_quiet_step (first | (go_at_call 47; exact calls_gr (Hfd.out _ wa_b _)) | fail))); refine wpQuiet_nil ?_; intro _ hw'; obtain ⟨g1, hw''⟩ := hw'; subst hw''); (have hgb := gr_below wa g1); (have hgs := gr_le wa g1); (have wa_le := wa_b.size); (go_wp2_with fail); (refine calls_name fun wb hwb => ?_; have wb_s0 : p < wb.heap.size := (by rw [hwb]; first | omega | (simp; done) | (simp; omega)); have wb_s1 : w.heap.size < wb.heap.size := (by rw [hwb]; first | omega | (simp; done) | (simp; omega)); have wb_c0 : wb.cell? ⟨p, 0, none⟩ = some (.int .i64 m.ver) := (by rw [hwb]; go_simp); have wb_c1 : wb.cell? ⟨p, 1, none⟩ = some (.int .i64 m.next) := (by rw [hwb]; go_simp); have wb_c2 : wb.cell? ⟨p, 2, none⟩ = some (.slice (some ⟨g, 0, none⟩) n zc) := (by rw [hwb]; go_simp); have wb_c3 : wb.cell? ⟨w.heap.size, 0, none⟩ = some (.int .i64 c.kind) := (by rw [hwb]; go_simp); have wb_c4 : wb.cell? ⟨w.heap.size, 1, none⟩ = some (.int .i64 c.zone) := (by rw [hwb]; go_simp); have wb_c5 : wb.cell? ⟨w.heap.size, 2, none⟩ = some (.int .i64 c.epoch) := (by rw [hwb]; go_simp); have wb_c6 : wb.cell? ⟨w.heap.size, 3, none⟩ = some (.int .i64 c.tt) := (by rw [hwb]; go_simp); have wb_c7 : wb.cell? ⟨w.heap.size, 4, none⟩ = some (.string c.key) := (by rw [hwb]; go_simp); have wb_b : Below w.heap.size w wb := (by rw [hwb]; exact (by repeat (first | with_reducible exact Below.refl _ _ | with_reducible assumption | with_reducible refine Below.drew ?_ | with_reducible refine below_drawn ?_ | with_reducible refine Below.alloc ?_ (by first | omega | (simp; done) | (simp; omega) | (simp at *; omega)) _ | with_reducible refine Below.setCell ?_ (by first | omega | (simp; done) | (simp; omega) | (simp at *; omega)) _ | with_reducible refine Below.trans ?_ (Below.mono (by assumption) (by first | omega | (simp; done) | (simp; omega) | (simp at *; omega)))))); clear hwb); (refine (Hmc.out _).mono ?_); (rintro e w1 ⟨rfl, w1_h⟩; obtain ⟨w1_hc, w1_hf⟩ := bcell w1_h; have w1_z := w1_h.size; have w1_b := wb_b.trans (w1_h.mono (by have := wb_b.size; omega)); have w1_le := w1_b.size; have w1_s0 : p < w1.heap.size := (by omega); have w1_s1 : w.heap.size < w1.heap.size := (by omega); clear w1_h); (go_wp2_with fail))
    go_ret
    exact chPost_no H.out HR.out (by repeat (first | with_reducible exact Below.refl _ _ | with_reducible assumption | with_reducible refine Below.drew ?_ | with_reducible refine below_drawn ?_ | with_reducible refine Below.alloc ?_ (by first | omega | (simp; done) | (simp; omega) | (simp at *; omega)) _ | with_reducible refine Below.setCell ?_ (by first | omega | (simp; done) | (simp; omega) | (simp at *; omega)) _ | with_reducible refine Below.trans ?_ (Below.mono (by assumption) (by first | omega | (simp; done) | (simp; omega) | (simp at *; omega)))))
  | true =>
    have Hmc := Lib.hid (fun w => rmayC_any c w true hmc)
    have Hmt := Lib.hid hmc
    clear hmc
    cases hfz : findZ m.zs c.zone with
    | none =>
      have HR : Hid (applyM hosts m c = none) := Lib.hid (applyM_out hfz)
      obtain rfl : at_ = -1 := by rw [Hat.out]; exact fz_none hfz
      clear hfz
      (go_enter Try.func20, Try.ntmps20; (go_wp2_with fail); (refine wp_name fun wa hwa => ?_; have wa_s0 : p < wa.heap.size := (by rw [hwa]; first | omega | (simp; done) | (simp; omega)); have wa_s1 : w.heap.size < wa.heap.size := (by rw [hwa]; first | omega | (simp; done) | (simp; omega)); have wa_c0 : wa.cell? ⟨p, 0, none⟩ = some (.int .i64 m.ver) := (by rw [hwa]; go_simp); have wa_c1 : wa.cell? ⟨p, 1, none⟩ = some (.int .i64 m.next) := (by rw [hwa]; go_simp); have wa_c2 : wa.cell? ⟨p, 2, none⟩ = some (.slice (some ⟨g, 0, none⟩) n zc) := (by rw [hwa]; go_simp); have wa_c3 : wa.cell? ⟨w.heap.size, 0, none⟩ = some (.int .i64 c.kind) := (by rw [hwa]; go_simp); have wa_c4 : wa.cell? ⟨w.heap.size, 1, none⟩ = some (.int .i64 c.zone) := (by rw [hwa]; go_simp); have wa_c5 : wa.cell? ⟨w.heap.size, 2, none⟩ = some (.int .i64 c.epoch) := (by rw [hwa]; go_simp); have wa_c6 : wa.cell? ⟨w.heap.size, 3, none⟩ = some (.int .i64 c.tt) := (by rw [hwa]; go_simp); have wa_c7 : wa.cell? ⟨w.heap.size, 4, none⟩ = some (.string c.key) := (by rw [hwa]; go_simp); have wa_b : Below w.heap.size w wa := (by rw [hwa]; exact (by repeat (first | with_reducible exact Below.refl _ _ | with_reducible assumption | with_reducible refine Below.drew ?_ | with_reducible refine below_drawn ?_ | with_reducible refine Below.alloc ?_ (by first | omega | (simp; done) | (simp; omega) | (simp at *; omega)) _ | with_reducible refine Below.setCell ?_ (by first | omega | (simp; done) | (simp; omega) | (simp at *; omega)) _ | with_reducible refine Below.trans ?_ (Below.mono (by assumption) (by first | omega | (simp; done) | (simp; omega) | (simp at *; omega)))))); clear hwa); (refine wp_region_gr (by kernel_rfl) (by kernel_rfl) ?_; (repeat (go_big_quiet_step (first | (go_at_call 47; exact calls_gr (Hfd.out _ wa_b _)) | fail))); refine wpQuiet_nil ?_; intro _ hw'; obtain ⟨g1, hw''⟩ := hw'; subst hw''); (have hgb := gr_below wa g1); (have hgs := gr_le wa g1); (have wa_le := wa_b.size); (go_wp2_with fail); (refine calls_name fun wb hwb => ?_; have wb_s0 : p < wb.heap.size := (by rw [hwb]; first | omega | (simp; done) | (simp; omega)); have wb_s1 : w.heap.size < wb.heap.size := (by rw [hwb]; first | omega | (simp; done) | (simp; omega)); have wb_c0 : wb.cell? ⟨p, 0, none⟩ = some (.int .i64 m.ver) := (by rw [hwb]; go_simp); have wb_c1 : wb.cell? ⟨p, 1, none⟩ = some (.int .i64 m.next) := (by rw [hwb]; go_simp); have wb_c2 : wb.cell? ⟨p, 2, none⟩ = some (.slice (some ⟨g, 0, none⟩) n zc) := (by rw [hwb]; go_simp); have wb_c3 : wb.cell? ⟨w.heap.size, 0, none⟩ = some (.int .i64 c.kind) := (by rw [hwb]; go_simp); have wb_c4 : wb.cell? ⟨w.heap.size, 1, none⟩ = some (.int .i64 c.zone) := (by rw [hwb]; go_simp); have wb_c5 : wb.cell? ⟨w.heap.size, 2, none⟩ = some (.int .i64 c.epoch) := (by rw [hwb]; go_simp); have wb_c6 : wb.cell? ⟨w.heap.size, 3, none⟩ = some (.int .i64 c.tt) := (by rw [hwb]; go_simp); have wb_c7 : wb.cell? ⟨w.heap.size, 4, none⟩ = some (.string c.key) := (by rw [hwb]; go_simp); have wb_b : Below w.heap.size w wb := (by rw [hwb]; exact (by repeat (first | with_reducible exact Below.refl _ _ | with_reducible assumption | with_reducible refine Below.drew ?_ | with_reducible refine below_drawn ?_ | with_reducible refine Below.alloc ?_ (by first | omega | (simp; done) | (simp; omega) | (simp at *; omega)) _ | with_reducible refine Below.setCell ?_ (by first | omega | (simp; done) | (simp; omega) | (simp at *; omega)) _ | with_reducible refine Below.trans ?_ (Below.mono (by assumption) (by first | omega | (simp; done) | (simp; omega) | (simp at *; omega)))))); clear hwb); (refine (Hmc.out _).mono ?_); (rintro e w1 ⟨rfl, w1_h⟩; obtain ⟨w1_hc, w1_hf⟩ := bcell w1_h; have w1_z := w1_h.size; have w1_b := wb_b.trans (w1_h.mono (by have := wb_b.size; omega)); have w1_le := w1_b.size; have w1_s0 : p < w1.heap.size := (by omega); have w1_s1 : w.heap.size < w1.heap.size := (by omega); clear w1_h); (go_wp2_with fail))
      go_ret
      exact chPost_no H.out HR.out (by repeat (first | with_reducible exact Below.refl _ _ | with_reducible assumption | with_reducible refine Below.drew ?_ | with_reducible refine below_drawn ?_ | with_reducible refine Below.alloc ?_ (by first | omega | (simp; done) | (simp; omega) | (simp at *; omega)) _ | with_reducible refine Below.setCell ?_ (by first | omega | (simp; done) | (simp; omega) | (simp at *; omega)) _ | with_reducible refine Below.trans ?_ (Below.mono (by assumption) (by first | omega | (simp; done) | (simp; omega) | (simp at *; omega)))))
    | some i =>
      obtain ⟨z, hz, -, -⟩ := find_some hfz
      obtain rfl : at_ = (i : Int) := by rw [Hat.out]; exact fz_some hfz
      have hneg : decide ((i : Int) < 0) = false := by rw [decide_eq_false_iff_not]; omega
      by_cases hv : m.ver < 1099511627776
      · have e1 : decide (1099511627776 ≤ m.ver) = false := by rw [decide_eq_false_iff_not]; omega
        obtain ⟨r, hr⟩ : ∃ r, r = changeR hosts m i z c := ⟨_, rfl⟩
        have HR : Hid (applyM hosts m c = (r.filter mayM).map fun x => { x with ver := x.ver + 1 }) := by
          rw [hr, changeR_changeM Hhi.out HI.out hz]
          exact Lib.hid (applyM_at Hmt.out hv hfz hz)
        have hil : i < m.zs.length := (List.getElem?_eq_some_iff.1 hz).1
        have HV : Hid (∀ x, r = some x → x.zs.length ≤ m.zs.length + 1 ∧ x.ver = m.ver) := fun x e => changeR_len (hr.symm.trans e) hil
        have HCR := Lib.hid hr
        have Hz2 := Lib.hid hz
        have hv0 : 1 ≤ m.ver := HI.out.ver.1
        have Hn2 := Hn.out
        have HOwn : Hid (∀ w3, Below w.heap.size w w3 → Calls Try.prog 49 #[.agg #[.int .i64 m.ver, .int .i64 m.next, .slice (some ⟨g, 0, none⟩) n zc]] w3 (FreshM w3 m.ver m.next m.zs)) := by
          intro w3 hb
          rw [Hn2]
          exact rown_any (Hz.out.grow hb) (by omega) (by omega) m.ver m.next
        clear hfz hz hr hil Hat Hn2
        (go_enter Try.func20, Try.ntmps20; (go_wp2_with fail); (refine wp_name fun wa hwa => ?_; have wa_s0 : p < wa.heap.size := (by rw [hwa]; first | omega | (simp; done) | (simp; omega)); have wa_s1 : w.heap.size < wa.heap.size := (by rw [hwa]; first | omega | (simp; done) | (simp; omega)); have wa_c0 : wa.cell? ⟨p, 0, none⟩ = some (.int .i64 m.ver) := (by rw [hwa]; go_simp); have wa_c1 : wa.cell? ⟨p, 1, none⟩ = some (.int .i64 m.next) := (by rw [hwa]; go_simp); have wa_c2 : wa.cell? ⟨p, 2, none⟩ = some (.slice (some ⟨g, 0, none⟩) n zc) := (by rw [hwa]; go_simp); have wa_c3 : wa.cell? ⟨w.heap.size, 0, none⟩ = some (.int .i64 c.kind) := (by rw [hwa]; go_simp); have wa_c4 : wa.cell? ⟨w.heap.size, 1, none⟩ = some (.int .i64 c.zone) := (by rw [hwa]; go_simp); have wa_c5 : wa.cell? ⟨w.heap.size, 2, none⟩ = some (.int .i64 c.epoch) := (by rw [hwa]; go_simp); have wa_c6 : wa.cell? ⟨w.heap.size, 3, none⟩ = some (.int .i64 c.tt) := (by rw [hwa]; go_simp); have wa_c7 : wa.cell? ⟨w.heap.size, 4, none⟩ = some (.string c.key) := (by rw [hwa]; go_simp); have wa_b : Below w.heap.size w wa := (by rw [hwa]; exact (by repeat (first | with_reducible exact Below.refl _ _ | with_reducible assumption | with_reducible refine Below.drew ?_ | with_reducible refine below_drawn ?_ | with_reducible refine Below.alloc ?_ (by first | omega | (simp; done) | (simp; omega) | (simp at *; omega)) _ | with_reducible refine Below.setCell ?_ (by first | omega | (simp; done) | (simp; omega) | (simp at *; omega)) _ | with_reducible refine Below.trans ?_ (Below.mono (by assumption) (by first | omega | (simp; done) | (simp; omega) | (simp at *; omega)))))); clear hwa); (refine wp_region_gr (by kernel_rfl) (by kernel_rfl) ?_; (repeat (go_big_quiet_step (first | (go_at_call 47; exact calls_gr (Hfd.out _ wa_b _)) | fail))); refine wpQuiet_nil ?_; intro _ hw'; obtain ⟨g1, hw''⟩ := hw'; subst hw''); (have hgb := gr_below wa g1); (have hgs := gr_le wa g1); (have wa_le := wa_b.size); (go_wp2_with fail); (refine calls_name fun wb hwb => ?_; have wb_s0 : p < wb.heap.size := (by rw [hwb]; first | omega | (simp; done) | (simp; omega)); have wb_s1 : w.heap.size < wb.heap.size := (by rw [hwb]; first | omega | (simp; done) | (simp; omega)); have wb_c0 : wb.cell? ⟨p, 0, none⟩ = some (.int .i64 m.ver) := (by rw [hwb]; go_simp); have wb_c1 : wb.cell? ⟨p, 1, none⟩ = some (.int .i64 m.next) := (by rw [hwb]; go_simp); have wb_c2 : wb.cell? ⟨p, 2, none⟩ = some (.slice (some ⟨g, 0, none⟩) n zc) := (by rw [hwb]; go_simp); have wb_c3 : wb.cell? ⟨w.heap.size, 0, none⟩ = some (.int .i64 c.kind) := (by rw [hwb]; go_simp); have wb_c4 : wb.cell? ⟨w.heap.size, 1, none⟩ = some (.int .i64 c.zone) := (by rw [hwb]; go_simp); have wb_c5 : wb.cell? ⟨w.heap.size, 2, none⟩ = some (.int .i64 c.epoch) := (by rw [hwb]; go_simp); have wb_c6 : wb.cell? ⟨w.heap.size, 3, none⟩ = some (.int .i64 c.tt) := (by rw [hwb]; go_simp); have wb_c7 : wb.cell? ⟨w.heap.size, 4, none⟩ = some (.string c.key) := (by rw [hwb]; go_simp); have wb_b : Below w.heap.size w wb := (by rw [hwb]; exact (by repeat (first | with_reducible exact Below.refl _ _ | with_reducible assumption | with_reducible refine Below.drew ?_ | with_reducible refine below_drawn ?_ | with_reducible refine Below.alloc ?_ (by first | omega | (simp; done) | (simp; omega) | (simp at *; omega)) _ | with_reducible refine Below.setCell ?_ (by first | omega | (simp; done) | (simp; omega) | (simp at *; omega)) _ | with_reducible refine Below.trans ?_ (Below.mono (by assumption) (by first | omega | (simp; done) | (simp; omega) | (simp at *; omega)))))); clear hwb); (refine (Hmc.out _).mono ?_); (rintro e w1 ⟨rfl, w1_h⟩; obtain ⟨w1_hc, w1_hf⟩ := bcell w1_h; have w1_z := w1_h.size; have w1_b := wb_b.trans (w1_h.mono (by have := wb_b.size; omega)); have w1_le := w1_b.size; have w1_s0 : p < w1.heap.size := (by omega); have w1_s1 : w.heap.size < w1.heap.size := (by omega); clear w1_h); (go_wp2_with fail))
        have HS1 := Lib.hid (H.out.grow w1_b)
        refine calls_name fun w1' hw1' => ?_
        obtain rfl := hw1'
        refine (HOwn.out _ w1_b).mono ?_
        rintro e w2 ⟨gn, cn, rfl, hown, hb2⟩
        have w1_le := w1_b.size
        have w2_b : Below w.heap.size w w2 := w1_b.trans (hb2.mono w1_le)
        have HS2 := Lib.hid (HS1.out.mapRowD hb2 hown)
        obtain ⟨xc, xf⟩ := bcell w2_b
        have w2_le := w2_b.size
        have s0 : p < w2.heap.size := by omega
        have s1 : w.heap.size < w2.heap.size := by have := hb2.size; omega
        have hwc := (bcell hb2).1
        have r0 := (hwc w.heap.size 0 w1_s1).trans ((w1_hc w.heap.size 0 wb_s1).trans wb_c3)
        have r1 := (hwc w.heap.size 1 w1_s1).trans ((w1_hc w.heap.size 1 wb_s1).trans wb_c4)
        have r2 := (hwc w.heap.size 2 w1_s1).trans ((w1_hc w.heap.size 2 wb_s1).trans wb_c5)
        have r3 := (hwc w.heap.size 3 w1_s1).trans ((w1_hc w.heap.size 3 wb_s1).trans wb_c6)
        have r4 := (hwc w.heap.size 4 w1_s1).trans ((w1_hc w.heap.size 4 wb_s1).trans wb_c7)
        clear hown hb2 HS1 xc xf hwc w1_hc w1_hf wb_c0 wb_c1 wb_c2 wb_c3 wb_c4 wb_c5 wb_c6 wb_c7 wa_c0 wa_c1 wa_c2 wa_c3 wa_c4 wa_c5 wa_c6 wa_c7 wb_b wb_s0 wb_s1 w1_s0 w1_s1 w1_z w1_le hgb hgs wa_b wa_s0 wa_s1 wa_le w1_b c0 c1 c2
        have HS3 : Hid (St W (w2.alloc (.cells #[.int .i64 m.ver, .int .i64 m.next, .slice (some ⟨gn, 0, none⟩) m.zs.length cn] 30)) (thDir 49 W.heap.size p g zc m ho hosts.length hc :: thObj w2.heap.size (.cells #[.int .i64 m.ver, .int .i64 m.next, .slice (some ⟨gn, 0, none⟩) m.zs.length cn] 30) :: thZ W.heap.size gn cn m.zs :: L)) := Lib.hid ((HS2.out.objN _ _ rfl).pull (A := [_, _]))
        have hia : Hid (IAtD (w2.alloc (.cells #[.int .i64 m.ver, .int .i64 m.next, .slice (some ⟨gn, 0, none⟩) m.zs.length cn] 30)) ho hosts) := Lib.hid ((Hh.out.grow w2_b).grow (below_allocO _ _))
        go_wp2_with fail
        refine (rchange_any HS3.out HI.out hia.out Hhm.out i z Hz2.out c).mono ?_
        rw [← HCR.out]
        rintro e w3 ⟨g3, zc3, rfl, hS4⟩
        have sw3 : w2.heap.size ≤ w3.heap.size := by
          have := hS4.cells (b := w2.heap.size) (List.mem_cons_of_mem _ (List.mem_cons_self ..))
          omega
        have HS4 := Lib.hid hS4
        clear hS4 HS3 hia HS2 r0 r1 r2 r3 r4
        cases r with
        | none =>
          ((obtain ⟨bl, bc, -⟩ := HS4.out.cells (b := w2.heap.size) (List.mem_cons_of_mem _ (List.mem_cons_self ..))); (have b0 := bc 0); (have b1 := bc 1); (have b2 := bc 2); clear bc; (simp at b0 b1 b2); (obtain ⟨pp, p0, p1, p2, -, pf⟩ := dir_cells HS4.out.head); (go_wp2_with fail); go_ret; rw [HR.out]; exact ⟨gn, cn, rfl, HS4.out.dirBack⟩)
        | some x =>
          obtain ⟨hxl, hxv⟩ := HV.out x rfl
          have hS4 : Hid (St W w3 (thDir 49 W.heap.size p g3 zc3 x ho hosts.length hc :: thObj w2.heap.size (.cells #[.int .i64 m.ver, .int .i64 m.next, .slice (some ⟨gn, 0, none⟩) m.zs.length cn] 30) :: thZ W.heap.size gn cn m.zs :: L)) := HS4
          obtain ⟨pp, p0, p1, p2, -, pf⟩ := dir_cells hS4.out.head
          rw [hxv] at p0
          have hx1000 : x.zs.length ≤ 1000 := by have := Hn.out; omega
          have hmay := may_any (zc := zc3) hS4.out.head.2.1.at hx1000
          rw [hxv] at hmay
          obtain ⟨b, hb⟩ : ∃ b, b = mayM x := ⟨_, rfl⟩
          rw [← hb] at hmay
          have Hmay := Lib.hid hmay
          have Hb := Lib.hid hb
          have Hxv := Lib.hid hxv
          clear HS4 hxl hxv hmay hb hx1000
          go_wp2_with fail
          refine Hmay.out.mono ?_
          rintro e w4 ⟨rfl, hb4⟩
          have hS5 := Lib.hid (hS4.out.grow hb4)
          clear hb4 p0 p1 p2 pf pp hS4 Hmay
          cases b with
          | false =>
            have hf : Hid ((applyM hosts m c) = none) := by rw [HR.out, Option.filter_some, if_neg (by rw [← Hb.out]; decide)]; exact Lib.hid rfl
            clear HR
            have HR := hf
            clear hf
            ((obtain ⟨bl, bc, -⟩ := hS5.out.cells (b := w2.heap.size) (List.mem_cons_of_mem _ (List.mem_cons_self ..))); (have b0 := bc 0); (have b1 := bc 1); (have b2 := bc 2); clear bc; (simp at b0 b1 b2); (obtain ⟨pp, p0, p1, p2, -, pf⟩ := dir_cells hS5.out.head); (go_wp2_with fail); go_ret; rw [HR.out]; exact ⟨gn, cn, rfl, hS5.out.dirBack⟩)
          | true =>
            have hf : Hid ((applyM hosts m c) = some { x with ver := m.ver + 1 }) := by rw [HR.out, Option.filter_some, if_pos Hb.out.symm, ← Hxv.out]; exact Lib.hid rfl
            obtain ⟨pp, p0, -, -, -, pf⟩ := dir_cells hS5.out.head
            rw [Hxv.out] at p0
            have hf0 := pf 0
            clear pf
            have e7 : IntKind.i64.wrap (m.ver + 1) = m.ver + 1 := by rw [IntKind.wrap_i64]; omega
            go_wp2_with fail
            go_ret
            rw [hf.out]
            exact ⟨g3, zc3, rfl, (((hS5.out.dirVer (m.ver + 1)).pull (A := [_])).drop.pull (A := [_])).drop⟩
      · have e1 : decide (1099511627776 ≤ m.ver) = true := by rw [decide_eq_true_eq]; omega
        have HR : Hid (applyM hosts m c = none) := Lib.hid (applyM_no (by intro hx; exact hv hx.2))
        clear hfz hz hv
        (go_enter Try.func20, Try.ntmps20; (go_wp2_with fail); (refine wp_name fun wa hwa => ?_; have wa_s0 : p < wa.heap.size := (by rw [hwa]; first | omega | (simp; done) | (simp; omega)); have wa_s1 : w.heap.size < wa.heap.size := (by rw [hwa]; first | omega | (simp; done) | (simp; omega)); have wa_c0 : wa.cell? ⟨p, 0, none⟩ = some (.int .i64 m.ver) := (by rw [hwa]; go_simp); have wa_c1 : wa.cell? ⟨p, 1, none⟩ = some (.int .i64 m.next) := (by rw [hwa]; go_simp); have wa_c2 : wa.cell? ⟨p, 2, none⟩ = some (.slice (some ⟨g, 0, none⟩) n zc) := (by rw [hwa]; go_simp); have wa_c3 : wa.cell? ⟨w.heap.size, 0, none⟩ = some (.int .i64 c.kind) := (by rw [hwa]; go_simp); have wa_c4 : wa.cell? ⟨w.heap.size, 1, none⟩ = some (.int .i64 c.zone) := (by rw [hwa]; go_simp); have wa_c5 : wa.cell? ⟨w.heap.size, 2, none⟩ = some (.int .i64 c.epoch) := (by rw [hwa]; go_simp); have wa_c6 : wa.cell? ⟨w.heap.size, 3, none⟩ = some (.int .i64 c.tt) := (by rw [hwa]; go_simp); have wa_c7 : wa.cell? ⟨w.heap.size, 4, none⟩ = some (.string c.key) := (by rw [hwa]; go_simp); have wa_b : Below w.heap.size w wa := (by rw [hwa]; exact (by repeat (first | with_reducible exact Below.refl _ _ | with_reducible assumption | with_reducible refine Below.drew ?_ | with_reducible refine below_drawn ?_ | with_reducible refine Below.alloc ?_ (by first | omega | (simp; done) | (simp; omega) | (simp at *; omega)) _ | with_reducible refine Below.setCell ?_ (by first | omega | (simp; done) | (simp; omega) | (simp at *; omega)) _ | with_reducible refine Below.trans ?_ (Below.mono (by assumption) (by first | omega | (simp; done) | (simp; omega) | (simp at *; omega)))))); clear hwa); (refine wp_region_gr (by kernel_rfl) (by kernel_rfl) ?_; (repeat (go_big_quiet_step (first | (go_at_call 47; exact calls_gr (Hfd.out _ wa_b _)) | fail))); refine wpQuiet_nil ?_; intro _ hw'; obtain ⟨g1, hw''⟩ := hw'; subst hw''); (have hgb := gr_below wa g1); (have hgs := gr_le wa g1); (have wa_le := wa_b.size); (go_wp2_with fail); (refine calls_name fun wb hwb => ?_; have wb_s0 : p < wb.heap.size := (by rw [hwb]; first | omega | (simp; done) | (simp; omega)); have wb_s1 : w.heap.size < wb.heap.size := (by rw [hwb]; first | omega | (simp; done) | (simp; omega)); have wb_c0 : wb.cell? ⟨p, 0, none⟩ = some (.int .i64 m.ver) := (by rw [hwb]; go_simp); have wb_c1 : wb.cell? ⟨p, 1, none⟩ = some (.int .i64 m.next) := (by rw [hwb]; go_simp); have wb_c2 : wb.cell? ⟨p, 2, none⟩ = some (.slice (some ⟨g, 0, none⟩) n zc) := (by rw [hwb]; go_simp); have wb_c3 : wb.cell? ⟨w.heap.size, 0, none⟩ = some (.int .i64 c.kind) := (by rw [hwb]; go_simp); have wb_c4 : wb.cell? ⟨w.heap.size, 1, none⟩ = some (.int .i64 c.zone) := (by rw [hwb]; go_simp); have wb_c5 : wb.cell? ⟨w.heap.size, 2, none⟩ = some (.int .i64 c.epoch) := (by rw [hwb]; go_simp); have wb_c6 : wb.cell? ⟨w.heap.size, 3, none⟩ = some (.int .i64 c.tt) := (by rw [hwb]; go_simp); have wb_c7 : wb.cell? ⟨w.heap.size, 4, none⟩ = some (.string c.key) := (by rw [hwb]; go_simp); have wb_b : Below w.heap.size w wb := (by rw [hwb]; exact (by repeat (first | with_reducible exact Below.refl _ _ | with_reducible assumption | with_reducible refine Below.drew ?_ | with_reducible refine below_drawn ?_ | with_reducible refine Below.alloc ?_ (by first | omega | (simp; done) | (simp; omega) | (simp at *; omega)) _ | with_reducible refine Below.setCell ?_ (by first | omega | (simp; done) | (simp; omega) | (simp at *; omega)) _ | with_reducible refine Below.trans ?_ (Below.mono (by assumption) (by first | omega | (simp; done) | (simp; omega) | (simp at *; omega)))))); clear hwb); (refine (Hmc.out _).mono ?_); (rintro e w1 ⟨rfl, w1_h⟩; obtain ⟨w1_hc, w1_hf⟩ := bcell w1_h; have w1_z := w1_h.size; have w1_b := wb_b.trans (w1_h.mono (by have := wb_b.size; omega)); have w1_le := w1_b.size; have w1_s0 : p < w1.heap.size := (by omega); have w1_s1 : w.heap.size < w1.heap.size := (by omega); clear w1_h); (go_wp2_with fail))
        go_ret
        exact chPost_no H.out HR.out (by repeat (first | with_reducible exact Below.refl _ _ | with_reducible assumption | with_reducible refine Below.drew ?_ | with_reducible refine below_drawn ?_ | with_reducible refine Below.alloc ?_ (by first | omega | (simp; done) | (simp; omega) | (simp at *; omega)) _ | with_reducible refine Below.setCell ?_ (by first | omega | (simp; done) | (simp; omega) | (simp at *; omega)) _ | with_reducible refine Below.trans ?_ (Below.mono (by assumption) (by first | omega | (simp; done) | (simp; omega) | (simp at *; omega)))))
end Go.Proofs.Ytobnibdeimiinaa
