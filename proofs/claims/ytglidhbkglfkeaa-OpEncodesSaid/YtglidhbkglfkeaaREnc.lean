/- The contract of the document's Encode. -/
import Derived.Test.YtglidhbkglfkeaaRPut
import Derived.Test.YtglidhbkglfkeaaRMayA
import Derived.Test.YtglidhbkglfkeaaWrSt
namespace Go.Proofs.Ytglidhbkglfkeaa
open Go.RowKit
attribute [local go_sem ↓] Go.wp_at_zero Go.wp_at_succ

set_option maxRecDepth 20000 in
theorem renc_no (o : Rq) (w : World) (hm : mayO o = false) :
    Calls Try.prog 15 #[.agg #[.int .i64 o.kind, .int .i64 o.client, .int .i64 o.seq, .string o.key, .string o.who, .string o.tkey, .string o.twho, .int .i64 o.item, .int .i64 o.count, .int .i64 o.price, .bool o.buy, .int .i64 o.id]] w fun e w' => e = .returned (.tuple #[.slice none 0 0, .int .i64 1]) ∧ Below w.heap.size w w' := by
  have Hm := Lib.hid hm
  clear hm
  go_enter Try.func15, Try.ntmps15
  go_wp2_with fail
  (refine calls_name fun wa hwa => ?_; have wa_b : Below w.heap.size w wa := (by rw [hwa]; exact (by repeat (first | with_reducible exact Below.refl _ _ | with_reducible assumption | with_reducible refine Below.drew ?_ | with_reducible refine below_drawn ?_ | with_reducible refine Below.alloc ?_ (by first | omega | (simp; done) | (simp; omega) | (simp at *; omega)) _ | with_reducible refine Below.setCell ?_ (by first | omega | (simp; done) | (simp; omega) | (simp at *; omega)) _ | with_reducible refine Below.trans ?_ (Below.mono (by assumption) (by first | omega | (simp; done) | (simp; omega) | (simp at *; omega)))))); clear hwa)
  refine (rmay_any o _ false Hm.out).mono ?_
  (rintro e w1 ⟨rfl, w1_h⟩; obtain ⟨w1_hc, w1_hf⟩ := bcell w1_h; have w1_z := w1_h.size; have w1_b := wa_b.trans (w1_h.mono (by have := wa_b.size; omega)); have w1_le := w1_b.size; clear w1_h)
  go_wp2_with fail
  go_ret2
  exact ⟨rfl, (by repeat (first | with_reducible exact Below.refl _ _ | with_reducible assumption | with_reducible refine Below.drew ?_ | with_reducible refine below_drawn ?_ | with_reducible refine Below.alloc ?_ (by first | omega | (simp; done) | (simp; omega) | (simp at *; omega)) _ | with_reducible refine Below.setCell ?_ (by first | omega | (simp; done) | (simp; omega) | (simp at *; omega)) _ | with_reducible refine Below.trans ?_ (Below.mono (by assumption) (by first | omega | (simp; done) | (simp; omega) | (simp at *; omega)))))⟩
theorem refNums_lit (vs : List Int) (w : World) (n k : Nat) (cur : Array Value) (hn : n = w.heap.size) (hk : k = vs.length) (hc : cur = (intV vs).toArray) (hm : vs.length ≤ 1000000) :
    Calls Try.prog 39 #[.slice (some ⟨n, 0, none⟩) k k] (w.alloc (.cells cur 3)) fun e w' => ∃ ao cap, e = .returned (.slice ao (encs vs).length cap) ∧ OwnB w' w.heap.size ao cap (encs vs) ∧ Below w.heap.size w w' := by
  subst hn hk
  refine (refNums_any (some ⟨w.heap.size, 0, none⟩) vs.length vs _ (fun _ => ⟨w.heap.size, 0, rfl, by simp, irow_obj (heap_new w _) hc⟩) hm).mono ?_
  rintro e w' ⟨ao, cap, rfl, ho, hb⟩
  exact ⟨ao, cap, rfl, own_weak ho (by simp), (below_allocO w _).trans (hb.mono (by simp))⟩
theorem put_eq (k v : ByteArray) (hk : k.size ≤ 16) (hv : v.size ≤ 16) (w : World) (X : List UInt8) (hX : encS k ++ encS v = X) :
    Calls Try.prog 40 #[.agg #[.string k, .string v]] w (FreshB w X) := hX ▸ put_any k v hk hv w
theorem refNums_eq (vs : List Int) (w : World) (n k : Nat) (cur : Array Value) (hn : n = w.heap.size) (hk : k = vs.length) (hc : cur = (intV vs).toArray) (hm : vs.length ≤ 1000000) (X : List UInt8) (hX : encs vs = X) :
    Calls Try.prog 39 #[.slice (some ⟨n, 0, none⟩) k k] (w.alloc (.cells cur 3)) (FreshB w X) := by
  subst hX; exact refNums_lit vs w n k cur hn hk hc hm
theorem refNums_in (vs : List Int) (w : World) (n k : Nat) (cur : Array Value) (hh : w.heap[n]? = some (.cells cur 3 (0, 0))) (hk : k = vs.length) (hc : cur = (intV vs).toArray) (hm : vs.length ≤ 1000000) (X : List UInt8) (hX : encs vs = X) :
    Calls Try.prog 39 #[.slice (some ⟨n, 0, none⟩) k k] w (FreshB w X) := by
  subst hk hX
  exact refNums_any (some ⟨n, 0, none⟩) vs.length vs _ (fun _ => ⟨n, 0, rfl, lt_of_block hh, irow_obj hh hc⟩) hm
theorem stay_mk {w3 W : World} (hb : Below w3.heap.size w3 W) : Below w3.heap.size w3 W ∧ ∀ b o', b < w3.heap.size → W.cell? ⟨b, o', none⟩ = w3.cell? ⟨b, o', none⟩ :=
  ⟨hb, fun b o' h => hb.cell (p := ⟨b, o', none⟩) h⟩
set_option maxRecDepth 20000 in
set_option maxHeartbeats 2000000 in
theorem renc_yes (o : Rq) (w : World) (hm : mayO o = true) :
    Calls Try.prog 15 #[.agg #[.int .i64 o.kind, .int .i64 o.client, .int .i64 o.seq, .string o.key, .string o.who, .string o.tkey, .string o.twho, .int .i64 o.item, .int .i64 o.count, .int .i64 o.price, .bool o.buy, .int .i64 o.id]] w fun e w' => ∃ ao cap, e = .returned (.tuple #[.slice ao (encO o).length cap, .int .i64 0]) ∧ OwnB w' w.heap.size ao cap (encO o) ∧ Below w.heap.size w w' := by
  obtain ⟨i0, hi, hz0, hz1, hz2⟩ := info_parts byteInfo
  have Hz := Lib.hid (may_sizes hm)
  have Hm := Lib.hid hm
  clear hm
  go_enter Try.func15, Try.ntmps15
  go_wp2_with fail
  (refine calls_name fun wa hwa => ?_; have wa_s0 : w.heap.size < wa.heap.size := (by rw [hwa]; first | omega | (simp; done) | (simp; omega)); have wa_c0 : wa.cell? ⟨w.heap.size, 0, none⟩ = some (.int .i64 o.kind) := (by rw [hwa]; go_simp); have wa_c1 : wa.cell? ⟨w.heap.size, 1, none⟩ = some (.int .i64 o.client) := (by rw [hwa]; go_simp); have wa_c2 : wa.cell? ⟨w.heap.size, 2, none⟩ = some (.int .i64 o.seq) := (by rw [hwa]; go_simp); have wa_c3 : wa.cell? ⟨w.heap.size, 3, none⟩ = some (.string o.key) := (by rw [hwa]; go_simp); have wa_c4 : wa.cell? ⟨w.heap.size, 4, none⟩ = some (.string o.who) := (by rw [hwa]; go_simp); have wa_c5 : wa.cell? ⟨w.heap.size, 5, none⟩ = some (.string o.tkey) := (by rw [hwa]; go_simp); have wa_c6 : wa.cell? ⟨w.heap.size, 6, none⟩ = some (.string o.twho) := (by rw [hwa]; go_simp); have wa_c7 : wa.cell? ⟨w.heap.size, 7, none⟩ = some (.int .i64 o.item) := (by rw [hwa]; go_simp); have wa_c8 : wa.cell? ⟨w.heap.size, 8, none⟩ = some (.int .i64 o.count) := (by rw [hwa]; go_simp); have wa_c9 : wa.cell? ⟨w.heap.size, 9, none⟩ = some (.int .i64 o.price) := (by rw [hwa]; go_simp); have wa_c10 : wa.cell? ⟨w.heap.size, 10, none⟩ = some (.bool o.buy) := (by rw [hwa]; go_simp); have wa_c11 : wa.cell? ⟨w.heap.size, 11, none⟩ = some (.int .i64 o.id) := (by rw [hwa]; go_simp); have wa_b : Below w.heap.size w wa := (by rw [hwa]; exact (by repeat (first | with_reducible exact Below.refl _ _ | with_reducible assumption | with_reducible refine Below.drew ?_ | with_reducible refine below_drawn ?_ | with_reducible refine Below.alloc ?_ (by first | omega | (simp; done) | (simp; omega) | (simp at *; omega)) _ | with_reducible refine Below.setCell ?_ (by first | omega | (simp; done) | (simp; omega) | (simp at *; omega)) _ | with_reducible refine Below.trans ?_ (Below.mono (by assumption) (by first | omega | (simp; done) | (simp; omega) | (simp at *; omega)))))); clear hwa)
  refine (rmay_any o _ true Hm.out).mono ?_
  (rintro e w1 ⟨rfl, w1_h⟩; obtain ⟨w1_hc, w1_hf⟩ := bcell w1_h; have w1_z := w1_h.size; have w1_b := wa_b.trans (w1_h.mono (by have := wa_b.size; omega)); have w1_le := w1_b.size; have w1_s0 : w.heap.size < w1.heap.size := (by omega); clear w1_h)
  go_wp2_with fail
  obtain ⟨A, hA⟩ : ∃ A, encs [o.kind, o.client, o.seq] = A := ⟨_, rfl⟩
  obtain ⟨B, hB⟩ : ∃ B, encS o.key ++ encS o.who = B := ⟨_, rfl⟩
  obtain ⟨C, hC⟩ : ∃ C, encS o.tkey ++ encS o.twho = C := ⟨_, rfl⟩
  obtain ⟨D, hD⟩ : ∃ D, encs [o.item, o.count, o.price, b1 o.buy, o.id] = D := ⟨_, rfl⟩
  have HL0 : Hid (A.length ≤ 30 ∧ B.length ≤ 52 ∧ C.length ≤ 52 ∧ D.length ≤ 50) := by
    have h1 := encs_length [o.kind, o.client, o.seq]
    have h2 := rowlen o.key Hz.out.1; have h3 := rowlen o.who Hz.out.2.1; have h4 := rowlen o.tkey Hz.out.2.2.1; have h5 := rowlen o.twho Hz.out.2.2.2
    have h6 := encs_length [o.item, o.count, o.price, b1 o.buy, o.id]
    subst hA hB hC hD
    refine ⟨by simpa using h1, ?_, ?_, by simpa using h6⟩ <;> rw [List.length_append] <;> omega
  obtain ⟨E1, hE1⟩ : ∃ E1, A ++ B = E1 := ⟨_, rfl⟩
  obtain ⟨E2, hE2⟩ : ∃ E2, E1 ++ C = E2 := ⟨_, rfl⟩
  obtain ⟨E3, hE3⟩ : ∃ E3, E2 ++ D = E3 := ⟨_, rfl⟩
  have HL : Hid (A.length ≤ 30 ∧ B.length ≤ 52 ∧ C.length ≤ 52 ∧ D.length ≤ 50 ∧ E1.length ≤ 82 ∧ E2.length ≤ 134) := by
    have h := HL0.out
    subst hE1 hE2
    simp only [Hid, List.length_append]; omega
  have HE : Hid (encO o = E3) := by subst hA hB hC hD hE1 hE2 hE3; simp only [Hid, encO, List.append_assoc]
  have HA := Lib.hid hA
  have HB := Lib.hid hB
  have HC := Lib.hid hC
  have HD := Lib.hid hD
  have H1 := Lib.hid hE1
  have H2 := Lib.hid hE2
  have H3 := Lib.hid hE3
  clear hA hB hC hD hE1 hE2 hE3
  refine (refNums_eq [o.kind, o.client, o.seq] w1 w1.heap.size 3 _ rfl rfl rfl (by simp) A HA.out).mono ?_
  rintro e w2 ⟨ao, cap, rfl, ho, hb⟩
  have w2_b : Below w1.heap.size w1 w2 := hb
  obtain ⟨hc2, hf2⟩ := bcell hb
  have w2_s := hb.size
  have Ho := Lib.hid ho
  clear ho hb
  go_wp2_with fail
  refine (put_eq o.key o.who Hz.out.1 Hz.out.2.1 w2 B HB.out).mono ?_
  rintro e w3 ⟨bo, bc, rfl, hp, hb⟩
  have w3_b : Below w1.heap.size w1 w3 := w2_b.trans (hb.mono (by omega))
  have w3_s := hb.size
  have Ho3 := Lib.hid (own_growO Ho.out hb)
  have Hnew := Lib.hid hp
  clear hp hb Ho hc2 hf2
  go_wp2_with (at_builtin; go_must (refine wpList_append_any _ rfl (.tmp 16) (.tmp 19) 27 rfl w1.heap.size 5 i0 (.int .u8 0) 1 1 Try.underlying27 hi hz0 hz1 hz2 rfl (by decide) (.slice ao (A).length cap) (A).length (bytV (A)) rfl Ho3.out bo (B).length bc (bytV (B)) rfl Hnew.out.none (by rw [bytV_length, Nat.mul_one]) Hnew.out.at.cells (bytV_one _) (by have := HL.out; unfold maxLen; omega) (by have := HL.out; omega) (by omega) ?_))
  intro vv w4 hown hgrow; have w4_b : Below w1.heap.size w1 w4 := below_grown w3_b (by omega) hgrow (fun j hj => own_block Ho3.out hj); have w4_s := w4_b.size; obtain ⟨co, cc, rfl, ho⟩ := owned_bytes (l := E1) (by rw [← H1.out, ← bytV_append]; exact hown) (by rw [← H1.out, List.length_append]);  clear hown hgrow
  obtain ⟨hc4, hf4⟩ := bcellB w4_b
  have Ho4 := Lib.hid ho
  clear ho Hnew Ho3
  go_wp2_with fail
  refine (put_eq o.tkey o.twho Hz.out.2.2.1 Hz.out.2.2.2 w4 C HC.out).mono ?_
  rintro e w5 ⟨bo, bc, rfl, hp, hb⟩
  have w5_b : Below w1.heap.size w1 w5 := w4_b.trans (hb.mono (by omega))
  have w5_s := hb.size
  have Ho5 := Lib.hid (own_growO Ho4.out hb)
  have Hnew := Lib.hid hp
  clear hp hb Ho4 hc4 hf4
  go_wp2_with (at_builtin; go_must (refine wpList_append_any _ rfl (.tmp 21) (.tmp 24) 27 rfl w1.heap.size 5 i0 (.int .u8 0) 1 1 Try.underlying27 hi hz0 hz1 hz2 rfl (by decide) (.slice co (E1).length cc) (E1).length (bytV (E1)) rfl Ho5.out bo (C).length bc (bytV (C)) rfl Hnew.out.none (by rw [bytV_length, Nat.mul_one]) Hnew.out.at.cells (bytV_one _) (by have := HL.out; unfold maxLen; omega) (by have := HL.out; omega) (by omega) ?_))
  intro vv w6 hown hgrow; have w6_b : Below w1.heap.size w1 w6 := below_grown w5_b (by omega) hgrow (fun j hj => own_block Ho5.out hj); have w6_s := w6_b.size; obtain ⟨do6, dc, rfl, ho⟩ := owned_bytes (l := E2) (by rw [← H2.out, ← bytV_append]; exact hown) (by rw [← H2.out, List.length_append]);  clear hown hgrow
  obtain ⟨hc6, hf6⟩ := bcellB w6_b
  have Ho6 := Lib.hid ho
  clear ho Hnew Ho5
  go_wp2_with fail
  have e5 := (hc6 w.heap.size 7 (by omega)).trans ((w1_hc w.heap.size 7 (by omega)).trans wa_c7)
  have e6 := (hc6 w.heap.size 8 (by omega)).trans ((w1_hc w.heap.size 8 (by omega)).trans wa_c8)
  have e7 := (hc6 w.heap.size 9 (by omega)).trans ((w1_hc w.heap.size 9 (by omega)).trans wa_c9)
  have e8 := (hc6 w.heap.size 10 (by omega)).trans ((w1_hc w.heap.size 10 (by omega)).trans wa_c10)
  have e9 := (hc6 w.heap.size 11 (by omega)).trans ((w1_hc w.heap.size 11 (by omega)).trans wa_c11)
  have hlt6 : w.heap.size < w6.heap.size := by omega
  clear hc6 hf6 w1_hc w1_hf wa_c0 wa_c1 wa_c2 wa_c3 wa_c4 wa_c5 wa_c6 wa_c7 wa_c8 wa_c9 wa_c10 wa_c11 w5_b w4_b w3_b w2_b
  go_region_held3 (fun W => ∀ o, W.cell? ⟨w.heap.size, o, none⟩ = w6.cell? ⟨w.heap.size, o, none⟩) (first | assumption | exact fun _ => rfl | exact fun o => (w9_b.cell (p := ⟨w.heap.size, o, none⟩) w1_s0).trans (w6_b.cell (p := ⟨w.heap.size, o, none⟩) w1_s0).symm | exact fun o => hbw8.cell (p := ⟨w.heap.size, o, none⟩) hlt6 | exact fun o => ((below_allocO w6 _).drew).cell (p := ⟨w.heap.size, o, none⟩) hlt6) (first
    | (go_at_call 41; refine (one_any o.buy _).mono ?_; rintro e W' ⟨rfl, rfl⟩)
    | (go_at_call 39; go_must (refine (refNums_in [o.item, o.count, o.price, b1 o.buy, o.id] _ w6.heap.size 5 #[.int .i64 o.item, .int .i64 o.count, .int .i64 o.price, .int .i64 (b1 o.buy), .int .i64 o.id] ?_ rfl rfl (by simp) D HD.out).mono ?_; (focus (exact heap_new w6 _)); rintro e w8 ⟨co8, cc8, rfl, ho8, hb8⟩; have hbw8 : Below w6.heap.size w6 w8 := ((below_allocO w6 _).drew).trans (hb8.mono (by first | (simp; done) | (simp; omega)))))
    | (refine at_app _ _ (by rfl) ?_; go_must (refine step_append_any _ (by rfl) (.tmp 26) (.tmp 39) 27 (by rfl) w1.heap.size 5 i0 (.int .u8 0) 1 1 Try.underlying27 hi hz0 hz1 hz2 rfl (by decide) (.slice do6 E2.length dc) E2.length (bytV E2) (by rfl) (own_growO Ho6.out hbw8) co8 D.length cc8 (bytV D) (by rfl) ho8.none (by rw [bytV_length, Nat.mul_one]) ho8.at.cells (bytV_one _) (by have := HL.out; unfold maxLen; omega) (by have := HL.out; omega) (by have := hbw8.size; omega) ?_; intro vv w9 hown hgrow; have w9_b : Below w1.heap.size w1 w9 := below_grown (w6_b.trans (hbw8.mono (by omega))) (by have := hbw8.size; omega) hgrow (fun j hj => own_block Ho6.out hj); obtain ⟨do9, dc9, rfl, ho9⟩ := owned_bytes (l := E3) (by rw [← H3.out, ← bytV_append]; exact hown) (by rw [← H3.out, List.length_append]); clear hown hgrow))
    | fail)
  all_goals
    go_wp2_with fail
    go_ret2
    refine ⟨do9, dc9, ?_, ?_, w1_b.trans (w9_b.mono (by omega))⟩
    · rw [HE.out, ← H3.out, List.length_append]; rfl
    · rw [HE.out]; exact own_weak ho9 (by omega)
end Go.Proofs.Ytglidhbkglfkeaa
