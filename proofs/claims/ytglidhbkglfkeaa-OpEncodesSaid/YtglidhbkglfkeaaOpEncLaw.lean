/- Any request as bytes, or refused; there and back it is it: the statement OpEncodes, for every request. -/
import Derived.Test.YtglidhbkglfkeaaOpDecLaw
import Derived.Test.YtglidhbkglfkeaaOpenOp
namespace Go.Proofs.Ytglidhbkglfkeaa
open Go.RowKit Go.Joins

theorem key_any (o : Rq) (w : World) : Calls Try.prog 16 #[.agg #[.int .i64 o.kind, .int .i64 o.client, .int .i64 o.seq, .string o.key, .string o.who, .string o.tkey, .string o.twho, .int .i64 o.item, .int .i64 o.count, .int .i64 o.price, .bool o.buy, .int .i64 o.id]] w fun e w' => e = .returned (.string o.key) ∧ Below w.heap.size w w' := by
  go_enter Try.func16, Try.ntmps16
  go_wp2_with fail
  go_ret
  exact ⟨rfl, (by repeat (first | with_reducible exact Below.refl _ _ | with_reducible assumption | with_reducible refine Below.drew ?_ | with_reducible refine below_drawn ?_ | with_reducible refine Below.alloc ?_ (by first | omega | (simp; done) | (simp; omega) | (simp at *; omega)) _ | with_reducible refine Below.setCell ?_ (by first | omega | (simp; done) | (simp; omega) | (simp at *; omega)) _ | with_reducible refine Below.trans ?_ (Below.mono (by assumption) (by first | omega | (simp; done) | (simp; omega) | (simp at *; omega)))))⟩
theorem encO_short {o : Rq} (h : mayO o = true) : (encO o).length ≤ 2000 := by
  have hz := may_sizes h
  have e1 := rowlen o.key hz.1
  have e2 := rowlen o.who hz.2.1
  have e3 := rowlen o.tkey hz.2.2.1
  have e4 := rowlen o.twho hz.2.2.2
  have h1 := encs_length [o.kind, o.client, o.seq]
  have h2 := encs_length [o.item, o.count, o.price, b1 o.buy, o.id]
  simp only [encO, List.length_append, List.length_cons, List.length_nil] at h1 h2 ⊢
  omega
set_option maxRecDepth 40000 in
set_option maxHeartbeats 4000000 in
theorem encodes_any (o : Rq) (w : World) :
    Calls Try.prog 6 #[.agg #[.int .i64 o.kind, .int .i64 o.client, .int .i64 o.seq, .string o.key, .string o.who, .string o.tkey, .string o.twho, .int .i64 o.item, .int .i64 o.count, .int .i64 o.price, .bool o.buy, .int .i64 o.id]] w fun e w' => e = .returned (.bool true) ∧ Below w.heap.size w w' := by
  have Ha := Lib.hid (fun w => heavy_any o w)
  cases ha : hvO o with
  | true =>
    rw [ha] at Ha
    clear ha
    go_enter Try.func6, Try.ntmps6
    go_wp2_with fail
    (refine calls_name fun wa hwa => ?_; have wa_b : Below w.heap.size w wa := (by rw [hwa]; exact (by repeat (first | with_reducible exact Below.refl _ _ | with_reducible assumption | with_reducible refine Below.drew ?_ | with_reducible refine below_drawn ?_ | with_reducible refine Below.alloc ?_ (by first | omega | (simp; done) | (simp; omega) | (simp at *; omega)) _ | with_reducible refine Below.setCell ?_ (by first | omega | (simp; done) | (simp; omega) | (simp at *; omega)) _ | with_reducible refine Below.trans ?_ (Below.mono (by assumption) (by first | omega | (simp; done) | (simp; omega) | (simp at *; omega)))))); clear hwa)
    refine (Ha.out _).mono ?_
    (rintro e w1 ⟨rfl, w1_h⟩; obtain ⟨w1_hc, w1_hf⟩ := bcell w1_h; have w1_z := w1_h.size; have w1_b := wa_b.trans (w1_h.mono (by have := wa_b.size; omega)); have w1_le := w1_b.size; clear w1_h)
    go_wp2_with fail
    go_ret
    exact ⟨rfl, (by repeat (first | with_reducible exact Below.refl _ _ | with_reducible assumption | with_reducible refine Below.drew ?_ | with_reducible refine below_drawn ?_ | with_reducible refine Below.alloc ?_ (by first | omega | (simp; done) | (simp; omega) | (simp at *; omega)) _ | with_reducible refine Below.setCell ?_ (by first | omega | (simp; done) | (simp; omega) | (simp at *; omega)) _ | with_reducible refine Below.trans ?_ (Below.mono (by assumption) (by first | omega | (simp; done) | (simp; omega) | (simp at *; omega)))))⟩
  | false =>
  rw [ha] at Ha
  clear ha
  have Hm := Lib.hid (fun w => may_any o w _ rfl)
  have hss : (o.key.toList == o.key.toList) = true := by simp
  cases hm : mayO o with
  | true =>
    rw [hm] at Hm
    have He := Lib.hid (fun w => enc_yes o w hm)
    have Hr := Lib.hid (fun w => renc_yes o w hm)
    have Hd := Lib.hid (fun ao cap w h0 ha => dec_any ao cap (encO o) w h0 ha (encO_short hm))
    have HR : Hid (decR (encO o) = o ∧ decE (encO o) = 0) := by
      have h1 := goodD_q hm
      have h2 : dqQ (decD (encO o)) = o := by rw [decD_q hm, dqQ_q hm]
      generalize encO o = X at h1 h2
      unfold decR decE
      rw [if_pos h1, if_pos h1]
      exact ⟨h2, rfl⟩
    have heq := fun w => eql_api.Op o o w true (eqR_self o)
    obtain ⟨X, hX⟩ : ∃ X, X = encO o := ⟨_, rfl⟩
    rw [← hX] at He Hr Hd HR
    clear hX hm
    obtain ⟨s, hs⟩ : ∃ s : ByteArray, s = ⟨X.toArray⟩ := ⟨_, rfl⟩
    have Hs := Lib.hid hs
    have hs2 : (s.toList == s.toList) = true := by simp
    clear hs
    go_enter Try.func6, Try.ntmps6
    go_wp2_with fail
    (refine calls_name fun wa hwa => ?_; have wa_s0 : w.heap.size < wa.heap.size := (by rw [hwa]; first | omega | (simp; done) | (simp; omega)); have wa_c0 : wa.cell? ⟨w.heap.size, 0, none⟩ = some (.int .i64 o.kind) := (by rw [hwa]; go_simp); have wa_c1 : wa.cell? ⟨w.heap.size, 1, none⟩ = some (.int .i64 o.client) := (by rw [hwa]; go_simp); have wa_c2 : wa.cell? ⟨w.heap.size, 2, none⟩ = some (.int .i64 o.seq) := (by rw [hwa]; go_simp); have wa_c3 : wa.cell? ⟨w.heap.size, 3, none⟩ = some (.string o.key) := (by rw [hwa]; go_simp); have wa_c4 : wa.cell? ⟨w.heap.size, 4, none⟩ = some (.string o.who) := (by rw [hwa]; go_simp); have wa_c5 : wa.cell? ⟨w.heap.size, 5, none⟩ = some (.string o.tkey) := (by rw [hwa]; go_simp); have wa_c6 : wa.cell? ⟨w.heap.size, 6, none⟩ = some (.string o.twho) := (by rw [hwa]; go_simp); have wa_c7 : wa.cell? ⟨w.heap.size, 7, none⟩ = some (.int .i64 o.item) := (by rw [hwa]; go_simp); have wa_c8 : wa.cell? ⟨w.heap.size, 8, none⟩ = some (.int .i64 o.count) := (by rw [hwa]; go_simp); have wa_c9 : wa.cell? ⟨w.heap.size, 9, none⟩ = some (.int .i64 o.price) := (by rw [hwa]; go_simp); have wa_c10 : wa.cell? ⟨w.heap.size, 10, none⟩ = some (.bool o.buy) := (by rw [hwa]; go_simp); have wa_c11 : wa.cell? ⟨w.heap.size, 11, none⟩ = some (.int .i64 o.id) := (by rw [hwa]; go_simp); have wa_b : Below w.heap.size w wa := (by rw [hwa]; exact (by repeat (first | with_reducible exact Below.refl _ _ | with_reducible assumption | with_reducible refine Below.drew ?_ | with_reducible refine below_drawn ?_ | with_reducible refine Below.alloc ?_ (by first | omega | (simp; done) | (simp; omega) | (simp at *; omega)) _ | with_reducible refine Below.setCell ?_ (by first | omega | (simp; done) | (simp; omega) | (simp at *; omega)) _ | with_reducible refine Below.trans ?_ (Below.mono (by assumption) (by first | omega | (simp; done) | (simp; omega) | (simp at *; omega)))))); clear hwa)
    refine (Ha.out _).mono ?_
    (rintro e w1 ⟨rfl, w1_h⟩; obtain ⟨w1_hc, w1_hf⟩ := bcell w1_h; have w1_z := w1_h.size; have w1_b := wa_b.trans (w1_h.mono (by have := wa_b.size; omega)); have w1_le := w1_b.size; have w1_s0 : w.heap.size < w1.heap.size := (by omega); clear w1_h)
    go_wp2_with fail
    (refine calls_name fun wb hwb => ?_; have wb_s0 : w.heap.size < wb.heap.size := (by rw [hwb]; first | omega | (simp; done) | (simp; omega)); have wb_c0 : wb.cell? ⟨w.heap.size, 0, none⟩ = some (.int .i64 o.kind) := (by rw [hwb]; go_simp); have wb_c1 : wb.cell? ⟨w.heap.size, 1, none⟩ = some (.int .i64 o.client) := (by rw [hwb]; go_simp); have wb_c2 : wb.cell? ⟨w.heap.size, 2, none⟩ = some (.int .i64 o.seq) := (by rw [hwb]; go_simp); have wb_c3 : wb.cell? ⟨w.heap.size, 3, none⟩ = some (.string o.key) := (by rw [hwb]; go_simp); have wb_c4 : wb.cell? ⟨w.heap.size, 4, none⟩ = some (.string o.who) := (by rw [hwb]; go_simp); have wb_c5 : wb.cell? ⟨w.heap.size, 5, none⟩ = some (.string o.tkey) := (by rw [hwb]; go_simp); have wb_c6 : wb.cell? ⟨w.heap.size, 6, none⟩ = some (.string o.twho) := (by rw [hwb]; go_simp); have wb_c7 : wb.cell? ⟨w.heap.size, 7, none⟩ = some (.int .i64 o.item) := (by rw [hwb]; go_simp); have wb_c8 : wb.cell? ⟨w.heap.size, 8, none⟩ = some (.int .i64 o.count) := (by rw [hwb]; go_simp); have wb_c9 : wb.cell? ⟨w.heap.size, 9, none⟩ = some (.int .i64 o.price) := (by rw [hwb]; go_simp); have wb_c10 : wb.cell? ⟨w.heap.size, 10, none⟩ = some (.bool o.buy) := (by rw [hwb]; go_simp); have wb_c11 : wb.cell? ⟨w.heap.size, 11, none⟩ = some (.int .i64 o.id) := (by rw [hwb]; go_simp); have wb_b : Below w.heap.size w wb := (by rw [hwb]; exact (by repeat (first | with_reducible exact Below.refl _ _ | with_reducible assumption | with_reducible refine Below.drew ?_ | with_reducible refine below_drawn ?_ | with_reducible refine Below.alloc ?_ (by first | omega | (simp; done) | (simp; omega) | (simp at *; omega)) _ | with_reducible refine Below.setCell ?_ (by first | omega | (simp; done) | (simp; omega) | (simp at *; omega)) _ | with_reducible refine Below.trans ?_ (Below.mono (by assumption) (by first | omega | (simp; done) | (simp; omega) | (simp at *; omega)))))); clear hwb)
    refine (He.out _).mono ?_
    rintro e w2 ⟨ao, acap, rfl, hoa, hb2⟩
    have w2_b : Below w.heap.size w w2 := wb_b.trans (hb2.mono (by omega))
    obtain ⟨h2c, h2f⟩ := bcell hb2
    have z2 := hb2.size
    have Hoa := Lib.hid hoa
    clear hoa hb2
    go_wp2_with fail
    have s2 : w.heap.size < w2.heap.size := by omega
    refine (Hr.out _).mono ?_
    rintro e w3 ⟨bo, bcap, rfl, hob, hb3⟩
    have w3_b : Below w.heap.size w w3 := w2_b.trans (hb3.mono (by omega))
    obtain ⟨h3c, h3f⟩ := bcell hb3
    have s3 : w.heap.size < w3.heap.size := by have := hb3.size; omega
    have Hoa3 := Lib.hid (own_growO Hoa.out hb3)
    have Hob := Lib.hid hob
    clear hob hb3
    go_wp2_with fail
    have hcva : ∀ g : Gr w3, (convert 27 9 (.slice ao X.length acap)).run Try.prog (gr w3 g) = .ok (.string s) (gr w3 g) := fun g => by
      rw [Hs.out]; exact conv_str (Hoa3.out.at.below (gr_below w3 g)) acap
    have hcvb : ∀ g : Gr w3, (convert 27 9 (.slice bo X.length bcap)).run Try.prog (gr w3 g) = .ok (.string s) (gr w3 g) := fun g => by
      rw [Hs.out]; exact conv_str (Hob.out.at.below (gr_below w3 g)) bcap
    (refine wp_region_gr (by kernel_rfl) (by kernel_rfl) ?_; (repeat (go_big_quiet_step (first | (go_at_call 12; exact calls_gr (Hm.out _)) | (go_at_call 16; exact calls_gr (key_any o _)) | fail))); refine wpQuiet_nil ?_; intro _ hw'; obtain ⟨g, hw''⟩ := hw'; subst hw'')
    clear hcva hcvb
    obtain ⟨w4, hw4⟩ : ∃ w4, w4 = gr w3 g := ⟨_, rfl⟩
    have hb34 : Below w3.heap.size w3 w4 := by rw [hw4]; exact gr_below w3 g
    rw [← hw4]
    clear hw4
    have w4_b : Below w.heap.size w w4 := w3_b.trans (hb34.mono (by omega))
    obtain ⟨h4c, h4f⟩ := bcell hb34
    have s4 : w.heap.size < w4.heap.size := by have := hb34.size; omega
    have Hoa4 := Lib.hid (own_growO Hoa3.out hb34)
    clear hb34
    go_wp2_with fail
    refine (Hd.out ao acap _ Hoa4.out.none Hoa4.out.at).mono ?_
    intro e w5 h5
    obtain ⟨rfl, hb5⟩ := h5.eq
    rw [HR.out.1, HR.out.2]
    have w5_b : Below w.heap.size w w5 := w4_b.trans (hb5.mono (by omega))
    obtain ⟨h5c, h5f⟩ := bcell hb5
    have s5 : w.heap.size < w5.heap.size := by have := hb5.size; omega
    have w5_s := w5_b.size
    clear hb5 h5
    go_wp2_with fail
    have hbA := w5_b.alloc w5_s (.cells #[.int .i64 o.kind, .int .i64 o.client, .int .i64 o.seq, .string o.key, .string o.who, .string o.tkey, .string o.twho, .int .i64 o.item, .int .i64 o.count, .int .i64 o.price, .bool o.buy, .int .i64 o.id] 25)
    refine (known_any _).mono ?_
    rintro e w6 ⟨rfl, hb6⟩
    have w6_b : Below w.heap.size w w6 := hbA.trans (hb6.mono hbA.size)
    clear hb6
    go_wp2_with fail
    go_ret
    exact ⟨rfl, w6_b⟩
  | false =>
    rw [hm] at Hm
    have He := Lib.hid (fun w => encode_no o w hm)
    have Hr := Lib.hid (fun w => renc_no o w hm)
    have Hd := Lib.hid (fun w => dec_any none 0 [] w (fun _ => ⟨rfl, rfl⟩) BAt.nil (by simp))
    clear hm
    go_enter Try.func6, Try.ntmps6
    go_wp2_with fail
    (refine calls_name fun wa hwa => ?_; have wa_s0 : w.heap.size < wa.heap.size := (by rw [hwa]; first | omega | (simp; done) | (simp; omega)); have wa_c0 : wa.cell? ⟨w.heap.size, 0, none⟩ = some (.int .i64 o.kind) := (by rw [hwa]; go_simp); have wa_c1 : wa.cell? ⟨w.heap.size, 1, none⟩ = some (.int .i64 o.client) := (by rw [hwa]; go_simp); have wa_c2 : wa.cell? ⟨w.heap.size, 2, none⟩ = some (.int .i64 o.seq) := (by rw [hwa]; go_simp); have wa_c3 : wa.cell? ⟨w.heap.size, 3, none⟩ = some (.string o.key) := (by rw [hwa]; go_simp); have wa_c4 : wa.cell? ⟨w.heap.size, 4, none⟩ = some (.string o.who) := (by rw [hwa]; go_simp); have wa_c5 : wa.cell? ⟨w.heap.size, 5, none⟩ = some (.string o.tkey) := (by rw [hwa]; go_simp); have wa_c6 : wa.cell? ⟨w.heap.size, 6, none⟩ = some (.string o.twho) := (by rw [hwa]; go_simp); have wa_c7 : wa.cell? ⟨w.heap.size, 7, none⟩ = some (.int .i64 o.item) := (by rw [hwa]; go_simp); have wa_c8 : wa.cell? ⟨w.heap.size, 8, none⟩ = some (.int .i64 o.count) := (by rw [hwa]; go_simp); have wa_c9 : wa.cell? ⟨w.heap.size, 9, none⟩ = some (.int .i64 o.price) := (by rw [hwa]; go_simp); have wa_c10 : wa.cell? ⟨w.heap.size, 10, none⟩ = some (.bool o.buy) := (by rw [hwa]; go_simp); have wa_c11 : wa.cell? ⟨w.heap.size, 11, none⟩ = some (.int .i64 o.id) := (by rw [hwa]; go_simp); have wa_b : Below w.heap.size w wa := (by rw [hwa]; exact (by repeat (first | with_reducible exact Below.refl _ _ | with_reducible assumption | with_reducible refine Below.drew ?_ | with_reducible refine below_drawn ?_ | with_reducible refine Below.alloc ?_ (by first | omega | (simp; done) | (simp; omega) | (simp at *; omega)) _ | with_reducible refine Below.setCell ?_ (by first | omega | (simp; done) | (simp; omega) | (simp at *; omega)) _ | with_reducible refine Below.trans ?_ (Below.mono (by assumption) (by first | omega | (simp; done) | (simp; omega) | (simp at *; omega)))))); clear hwa)
    refine (Ha.out _).mono ?_
    (rintro e w1 ⟨rfl, w1_h⟩; obtain ⟨w1_hc, w1_hf⟩ := bcell w1_h; have w1_z := w1_h.size; have w1_b := wa_b.trans (w1_h.mono (by have := wa_b.size; omega)); have w1_le := w1_b.size; have w1_s0 : w.heap.size < w1.heap.size := (by omega); clear w1_h)
    go_wp2_with fail
    (refine calls_name fun wb hwb => ?_; have wb_s0 : w.heap.size < wb.heap.size := (by rw [hwb]; first | omega | (simp; done) | (simp; omega)); have wb_c0 : wb.cell? ⟨w.heap.size, 0, none⟩ = some (.int .i64 o.kind) := (by rw [hwb]; go_simp); have wb_c1 : wb.cell? ⟨w.heap.size, 1, none⟩ = some (.int .i64 o.client) := (by rw [hwb]; go_simp); have wb_c2 : wb.cell? ⟨w.heap.size, 2, none⟩ = some (.int .i64 o.seq) := (by rw [hwb]; go_simp); have wb_c3 : wb.cell? ⟨w.heap.size, 3, none⟩ = some (.string o.key) := (by rw [hwb]; go_simp); have wb_c4 : wb.cell? ⟨w.heap.size, 4, none⟩ = some (.string o.who) := (by rw [hwb]; go_simp); have wb_c5 : wb.cell? ⟨w.heap.size, 5, none⟩ = some (.string o.tkey) := (by rw [hwb]; go_simp); have wb_c6 : wb.cell? ⟨w.heap.size, 6, none⟩ = some (.string o.twho) := (by rw [hwb]; go_simp); have wb_c7 : wb.cell? ⟨w.heap.size, 7, none⟩ = some (.int .i64 o.item) := (by rw [hwb]; go_simp); have wb_c8 : wb.cell? ⟨w.heap.size, 8, none⟩ = some (.int .i64 o.count) := (by rw [hwb]; go_simp); have wb_c9 : wb.cell? ⟨w.heap.size, 9, none⟩ = some (.int .i64 o.price) := (by rw [hwb]; go_simp); have wb_c10 : wb.cell? ⟨w.heap.size, 10, none⟩ = some (.bool o.buy) := (by rw [hwb]; go_simp); have wb_c11 : wb.cell? ⟨w.heap.size, 11, none⟩ = some (.int .i64 o.id) := (by rw [hwb]; go_simp); have wb_b : Below w.heap.size w wb := (by rw [hwb]; exact (by repeat (first | with_reducible exact Below.refl _ _ | with_reducible assumption | with_reducible refine Below.drew ?_ | with_reducible refine below_drawn ?_ | with_reducible refine Below.alloc ?_ (by first | omega | (simp; done) | (simp; omega) | (simp at *; omega)) _ | with_reducible refine Below.setCell ?_ (by first | omega | (simp; done) | (simp; omega) | (simp at *; omega)) _ | with_reducible refine Below.trans ?_ (Below.mono (by assumption) (by first | omega | (simp; done) | (simp; omega) | (simp at *; omega)))))); clear hwb)
    refine (He.out _).mono ?_
    (rintro e w2 ⟨rfl, w2_h⟩; obtain ⟨w2_hc, w2_hf⟩ := bcell w2_h; have w2_z := w2_h.size; have w2_b := wb_b.trans (w2_h.mono (by have := wb_b.size; omega)); have w2_le := w2_b.size; have w2_s0 : w.heap.size < w2.heap.size := (by omega); clear w2_h)
    go_wp2_with fail
    (refine calls_name fun wc hwc => ?_; have wc_s0 : w.heap.size < wc.heap.size := (by rw [hwc]; first | omega | (simp; done) | (simp; omega)); have wc_c0 : wc.cell? ⟨w.heap.size, 0, none⟩ = some (.int .i64 o.kind) := (by rw [hwc]; go_simp); have wc_c1 : wc.cell? ⟨w.heap.size, 1, none⟩ = some (.int .i64 o.client) := (by rw [hwc]; go_simp); have wc_c2 : wc.cell? ⟨w.heap.size, 2, none⟩ = some (.int .i64 o.seq) := (by rw [hwc]; go_simp); have wc_c3 : wc.cell? ⟨w.heap.size, 3, none⟩ = some (.string o.key) := (by rw [hwc]; go_simp); have wc_c4 : wc.cell? ⟨w.heap.size, 4, none⟩ = some (.string o.who) := (by rw [hwc]; go_simp); have wc_c5 : wc.cell? ⟨w.heap.size, 5, none⟩ = some (.string o.tkey) := (by rw [hwc]; go_simp); have wc_c6 : wc.cell? ⟨w.heap.size, 6, none⟩ = some (.string o.twho) := (by rw [hwc]; go_simp); have wc_c7 : wc.cell? ⟨w.heap.size, 7, none⟩ = some (.int .i64 o.item) := (by rw [hwc]; go_simp); have wc_c8 : wc.cell? ⟨w.heap.size, 8, none⟩ = some (.int .i64 o.count) := (by rw [hwc]; go_simp); have wc_c9 : wc.cell? ⟨w.heap.size, 9, none⟩ = some (.int .i64 o.price) := (by rw [hwc]; go_simp); have wc_c10 : wc.cell? ⟨w.heap.size, 10, none⟩ = some (.bool o.buy) := (by rw [hwc]; go_simp); have wc_c11 : wc.cell? ⟨w.heap.size, 11, none⟩ = some (.int .i64 o.id) := (by rw [hwc]; go_simp); have wc_b : Below w.heap.size w wc := (by rw [hwc]; exact (by repeat (first | with_reducible exact Below.refl _ _ | with_reducible assumption | with_reducible refine Below.drew ?_ | with_reducible refine below_drawn ?_ | with_reducible refine Below.alloc ?_ (by first | omega | (simp; done) | (simp; omega) | (simp at *; omega)) _ | with_reducible refine Below.setCell ?_ (by first | omega | (simp; done) | (simp; omega) | (simp at *; omega)) _ | with_reducible refine Below.trans ?_ (Below.mono (by assumption) (by first | omega | (simp; done) | (simp; omega) | (simp at *; omega)))))); clear hwc)
    refine (Hr.out _).mono ?_
    (rintro e w3 ⟨rfl, w3_h⟩; obtain ⟨w3_hc, w3_hf⟩ := bcell w3_h; have w3_z := w3_h.size; have w3_b := wc_b.trans (w3_h.mono (by have := wc_b.size; omega)); have w3_le := w3_b.size; have w3_s0 : w.heap.size < w3.heap.size := (by omega); clear w3_h)
    go_wp2_with fail
    (refine wp_name fun wd hwd => ?_; have wd_s0 : w.heap.size < wd.heap.size := (by rw [hwd]; first | omega | (simp; done) | (simp; omega)); have wd_c0 : wd.cell? ⟨w.heap.size, 0, none⟩ = some (.int .i64 o.kind) := (by rw [hwd]; go_simp); have wd_c1 : wd.cell? ⟨w.heap.size, 1, none⟩ = some (.int .i64 o.client) := (by rw [hwd]; go_simp); have wd_c2 : wd.cell? ⟨w.heap.size, 2, none⟩ = some (.int .i64 o.seq) := (by rw [hwd]; go_simp); have wd_c3 : wd.cell? ⟨w.heap.size, 3, none⟩ = some (.string o.key) := (by rw [hwd]; go_simp); have wd_c4 : wd.cell? ⟨w.heap.size, 4, none⟩ = some (.string o.who) := (by rw [hwd]; go_simp); have wd_c5 : wd.cell? ⟨w.heap.size, 5, none⟩ = some (.string o.tkey) := (by rw [hwd]; go_simp); have wd_c6 : wd.cell? ⟨w.heap.size, 6, none⟩ = some (.string o.twho) := (by rw [hwd]; go_simp); have wd_c7 : wd.cell? ⟨w.heap.size, 7, none⟩ = some (.int .i64 o.item) := (by rw [hwd]; go_simp); have wd_c8 : wd.cell? ⟨w.heap.size, 8, none⟩ = some (.int .i64 o.count) := (by rw [hwd]; go_simp); have wd_c9 : wd.cell? ⟨w.heap.size, 9, none⟩ = some (.int .i64 o.price) := (by rw [hwd]; go_simp); have wd_c10 : wd.cell? ⟨w.heap.size, 10, none⟩ = some (.bool o.buy) := (by rw [hwd]; go_simp); have wd_c11 : wd.cell? ⟨w.heap.size, 11, none⟩ = some (.int .i64 o.id) := (by rw [hwd]; go_simp); have wd_b : Below w.heap.size w wd := (by rw [hwd]; exact (by repeat (first | with_reducible exact Below.refl _ _ | with_reducible assumption | with_reducible refine Below.drew ?_ | with_reducible refine below_drawn ?_ | with_reducible refine Below.alloc ?_ (by first | omega | (simp; done) | (simp; omega) | (simp at *; omega)) _ | with_reducible refine Below.setCell ?_ (by first | omega | (simp; done) | (simp; omega) | (simp at *; omega)) _ | with_reducible refine Below.trans ?_ (Below.mono (by assumption) (by first | omega | (simp; done) | (simp; omega) | (simp at *; omega)))))); clear hwd)
    have hcv : ∀ g : Gr wd, (convert 27 9 (.slice none 0 0)).run Try.prog (gr wd g) = .ok (.string ⟨#[]⟩) (gr wd g) := fun g => conv_str (l := []) BAt.nil 0
    (refine wp_region_gr (by kernel_rfl) (by kernel_rfl) ?_; (repeat (go_big_quiet_step (first | (go_at_call 12; exact calls_gr (Hm.out _)) | (go_at_call 16; exact calls_gr (key_any o _)) | fail))); refine wpQuiet_nil ?_; intro _ hw'; obtain ⟨g, hw''⟩ := hw'; subst hw'')
    have w4_b : Below w.heap.size w (gr wd g) := wd_b.trans ((gr_below wd g).mono (by omega))
    clear hcv
    go_wp2_with fail
    refine (Hd.out _).mono ?_
    intro e w5 h5
    obtain ⟨rfl, hb5⟩ := h5.eq
    have w5_b : Below w.heap.size w w5 := w4_b.trans (hb5.mono w4_b.size)
    clear hb5 h5
    go_wp2_with fail
    refine (known_any _).mono ?_
    rintro e w6 ⟨rfl, hb6⟩
    have w5_c := w5_b.alloc w5_b.size (.cells #[.int .i64 (decR []).kind, .int .i64 (decR []).client, .int .i64 (decR []).seq, .string (decR []).key, .string (decR []).who, .string (decR []).tkey, .string (decR []).twho, .int .i64 (decR []).item, .int .i64 (decR []).count, .int .i64 (decR []).price, .bool (decR []).buy, .int .i64 (decR []).id] 25)
    have w6_b : Below w.heap.size w w6 := w5_c.trans (hb6.mono w5_c.size)
    clear hb6
    go_wp2_with fail
    go_ret
    exact ⟨rfl, w6_b⟩
namespace OpEncodesLift
open Go.ChangeShapes Go.WideShapes Go.ChangeAt Go.RowKit Go.Joins Go.Deep
open Go.ChangeMaps (open_string shut_string)

theorem own : ownKnob Try.prog.godebug = none := by kernel_rfl
theorem laidOut : laidOutB Try.prog = true := by kernel_rfl

set_option maxHeartbeats 1000000 in
set_option maxRecDepth 100000 in
theorem lifted (os : Os) (started : os.Started) (H : Type) (enc : TypeId × Value → H) :
    ReturnsInHanded {} Try.checked os 6 .any (Rows.opEncodesSpec.pre6 enc Try.prog Try.f6 Rows.opEncodesRow.domain false) (Rows.opEncodesSpec.post enc Try.prog Try.f6 false true false false) := by
  refine returnsInHanded_of_change (C := Try.checked) own started (by kernel_rfl) Try.func6
    (ChangeSpec.witness6 (enc := enc) (C := Try.checked) false ⟨#[], #[.agg #[.int .i64 0, .int .i64 0, .int .i64 0, .string ⟨#[]⟩, .string ⟨#[]⟩, .string ⟨#[]⟩, .string ⟨#[]⟩, .int .i64 0, .int .i64 0, .int .i64 0, .bool false, .int .i64 0]], []⟩ 8 (by kernel_rfl) (by kernel_rfl) (by kernel_rfl) (by kernel_rfl)) ?_
  intro W base args ds gs before hval0 hW hcnd _
  have hval : ∀ (j : Nat) t v, Try.f6.params[j]? = some t → args[j]? = some v → Value.okWide Try.prog W .any base t v := hval0
  have hW' := hW
  obtain ⟨p, q, hA0, hV, rfl, hfz, hnd⟩ := hW
  have hA : DataW.TrodAll enc Try.prog W 0 (fun _ => true) true Try.f6.params.toList args.toList ds p := hA0
  rw [Try.params6] at hA hval
  obtain ⟨v0, vs0, d0, ds0, p0, q0, hargs, rfl, rfl, h0, r0⟩ := trodAll_cons hA
  obtain ⟨rfl, rfl, rfl⟩ := trodAll_nil r0
  obtain rfl : args = #[v0] := by cases args; simp_all
  obtain ⟨rfl, rfl⟩ := trodVars_none hV
  have k0 := h0
  have lt0 : ∀ x ∈ p0, x.block < W.heap.size := by obtain ⟨m, hm⟩ := k0; exact DataW.trod_lt m _ _ _ hm
  have post : ∀ e W', e = Ending.returned (.bool true) → Below W.heap.size W W' → ∃ v, e = .returned v ∧ Rows.opEncodesSpec.post enc Try.prog Try.f6 false true false false W #[v0] v W' := by
    intro e W' he bel
    subst he
    exact ⟨_, rfl, _, _, _, [], _, [], hW', trodAll_mk1 (shut_bool Try.underlying4 _), (trodAll_cons_mk (Below.trod laidOut (by kernel_rfl) (of_decide_eq_true (by kernel_rfl)) k0 bel lt0) trodAll_mk0), rfl, bel.frame _, fun h => by cases h⟩
  clear hW' hcnd hfz hnd hA0 hA hval0
  obtain ⟨o0, rfl⟩ := open_op (hval 0 25 v0 rfl rfl) h0
  exact (encodes_any o0 W).mono fun e W' ⟨he, bel⟩ => post e W' he bel

theorem over : Rows.opEncodesRow.holds Try.pinned (OpenSpec.ofChange Rows.opEncodesSpec) :=
  OpenClaim.holds_of_wide 6 Try.f6 rfl rfl rfl rfl rfl rfl rfl ⟨rfl, rfl, rfl, rfl, rfl⟩ rfl rfl rfl rfl rfl (by kernel_rfl) Try.func6 (by kernel_rfl)
    (of_decide_eq_true (by kernel_rfl)) (by unfold Func.isWrapper; first | (rw [if_pos (by decide +kernel)]; kernel_rfl) | (rw [if_neg (by decide +kernel)]; exact ⟨rfl, rfl⟩))
    (fun os started H enc _ => lifted os started H enc)
end OpEncodesLift

/-- The statement. -/
theorem opEncodes_holds : Rows.OpEncodesSaid := OpEncodesLift.over
#print axioms opEncodes_holds
end Go.Proofs.Ytglidhbkglfkeaa
