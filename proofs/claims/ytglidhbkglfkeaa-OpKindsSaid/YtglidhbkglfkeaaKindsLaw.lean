/- A field that a Kind does not have makes it none: the statement OpKinds, for every request and number. -/
import Derived.Test.YtglidhbkglfkeaaLawA
import Derived.Test.YtglidhbkglfkeaaOpenOp
import Derived.Test.YtglidhbkglfkeaaRows
namespace Go.Proofs.Ytglidhbkglfkeaa
open Go.RowKit Go.Joins

theorem intMask7 (x : Int) : ∃ m : Nat, bits .and .i64 x 7 = m ∧ m ≤ 7 := by
  refine ⟨(BitVec.ofInt 64 x &&& BitVec.ofInt 64 7).toNat, ?_, ?_⟩
  · show IntKind.i64.wrap ((BitVec.ofInt 64 x &&& BitVec.ofInt 64 7).toNat : Int) = _
    have h : (BitVec.ofInt 64 x &&& BitVec.ofInt 64 7).toNat ≤ 7 := by
      rw [BitVec.toNat_and]; exact Nat.and_le_right
    rw [IntKind.wrap_i64]; omega
  · rw [BitVec.toNat_and]; exact Nat.and_le_right
/-- A request with one field turned. -/
def xO (o : Rq) (k : Nat) : Rq := match k with
  | 0 => { o with client := 0 }
  | 1 => { o with seq := 0 }
  | 2 => { o with key := e0 }
  | 3 => { o with who := ⟨#[49, 50, 51, 52, 53, 54, 55, 56, 57, 48, 49, 50, 51, 52, 53, 54, 55]⟩ }
  | 4 => { o with kind := 8 }
  | 5 => { o with id := o.id + 1099511627776 }
  | 6 => { o with price := -1 }
  | _ => { o with count := -1 }
theorem xO_no {o : Rq} (h : mayO o = true) (k : Nat) : mayO (xO o k) = false := by
  cases hx : mayO (xO o k) with
  | false => rfl
  | true =>
    exfalso
    have hb := may_bounds h
    have hbx := may_bounds hx
    obtain ⟨hp, hk, -⟩ := may_kind h
    obtain ⟨hpx, hkx, -⟩ := may_kind hx
    simp only [placeB, decide_eq_true_eq] at hpx
    match k with
    | 0 => simp only [xO] at hbx; omega
    | 1 => simp only [xO] at hbx; omega
    | 2 => simp only [xO] at hpx; have : e0.size = 0 := rfl; omega
    | 3 => simp only [xO] at hpx; have : (⟨#[49, 50, 51, 52, 53, 54, 55, 56, 57, 48, 49, 50, 51, 52, 53, 54, 55]⟩ : ByteArray).size = 17 := rfl; omega
    | 4 => simp only [xO] at hbx; omega
    | 5 =>
      simp only [xO] at hbx hkx
      rcases kind_parts hk with ⟨hkk, h⟩ | ⟨hkk, h⟩ | ⟨hkk, h⟩ | ⟨hkk, h⟩ | ⟨hkk, h⟩ <;> rcases kind_parts hkx with ⟨hkx, hx⟩ | ⟨hkx, hx⟩ | ⟨hkx, hx⟩ | ⟨hkx, hx⟩ | ⟨hkx, hx⟩
      all_goals (simp only [cntO, sendO, ordO, canO, barO, Bool.and_eq_true, decide_eq_true_eq] at h hx hkk hkx; omega)
    | 6 => simp only [xO] at hbx; omega
    | k + 7 => simp only [xO] at hbx; omega
set_option maxRecDepth 40000 in
set_option maxHeartbeats 4000000 in
theorem kinds_any (o : Rq) (which : Int) (w : World) :
    Calls Try.prog 4 #[.agg #[.int .i64 o.kind, .int .i64 o.client, .int .i64 o.seq, .string o.key, .string o.who, .string o.tkey, .string o.twho, .int .i64 o.item, .int .i64 o.count, .int .i64 o.price, .bool o.buy, .int .i64 o.id], .int .i64 which] w fun e w' => e = .returned (.bool true) ∧ Below w.heap.size w w' := by
  have Ha := Lib.hid (fun w => heavy_any o w)
  cases ha : hvO o with
  | true =>
    rw [ha] at Ha
    clear ha
    go_enter Try.func4, Try.ntmps4
    go_wp2_with fail
    (refine calls_name fun wa hwa => ?_; have wa_b : Below w.heap.size w wa := (by rw [hwa]; exact (by repeat (first | with_reducible exact Below.refl _ _ | with_reducible assumption | with_reducible refine Below.drew ?_ | with_reducible refine below_drawn ?_ | with_reducible refine Below.alloc ?_ (by first | omega | (simp; done) | (simp; omega) | (simp at *; omega)) _ | with_reducible refine Below.setCell ?_ (by first | omega | (simp; done) | (simp; omega) | (simp at *; omega)) _ | with_reducible refine Below.trans ?_ (Below.mono (by assumption) (by first | omega | (simp; done) | (simp; omega) | (simp at *; omega)))))); clear hwa)
    refine (Ha.out _).mono ?_
    (rintro e w1 ⟨rfl, w1_h⟩; obtain ⟨w1_hc, w1_hf⟩ := bcell w1_h; have w1_z := w1_h.size; have w1_b := wa_b.trans (w1_h.mono (by have := wa_b.size; omega)); have w1_le := w1_b.size; clear w1_h)
    go_wp2_with fail
    go_ret
    exact ⟨rfl, (by repeat (first | with_reducible exact Below.refl _ _ | with_reducible assumption | with_reducible refine Below.drew ?_ | with_reducible refine below_drawn ?_ | with_reducible refine Below.alloc ?_ (by first | omega | (simp; done) | (simp; omega) | (simp at *; omega)) _ | with_reducible refine Below.setCell ?_ (by first | omega | (simp; done) | (simp; omega) | (simp at *; omega)) _ | with_reducible refine Below.trans ?_ (Below.mono (by assumption) (by first | omega | (simp; done) | (simp; omega) | (simp at *; omega)))))⟩
  | false =>
  rw [ha] at Ha
  clear ha
  have Hr := Lib.hid (fun w => rmay_any o w _ rfl)
  have Hm := Lib.hid (fun w => may_any o w _ rfl)
  cases hm : mayO o with
  | false =>
    rw [hm] at Hr
    clear hm
    go_enter Try.func4, Try.ntmps4
    go_wp2_with fail
    (refine calls_name fun wa hwa => ?_; have wa_s0 : w.heap.size < wa.heap.size := (by rw [hwa]; first | omega | (simp; done) | (simp; omega)); have wa_c0 : wa.cell? ⟨w.heap.size, 0, none⟩ = some (.int .i64 o.kind) := (by rw [hwa]; go_simp); have wa_c1 : wa.cell? ⟨w.heap.size, 1, none⟩ = some (.int .i64 o.client) := (by rw [hwa]; go_simp); have wa_c2 : wa.cell? ⟨w.heap.size, 2, none⟩ = some (.int .i64 o.seq) := (by rw [hwa]; go_simp); have wa_c3 : wa.cell? ⟨w.heap.size, 3, none⟩ = some (.string o.key) := (by rw [hwa]; go_simp); have wa_c4 : wa.cell? ⟨w.heap.size, 4, none⟩ = some (.string o.who) := (by rw [hwa]; go_simp); have wa_c5 : wa.cell? ⟨w.heap.size, 5, none⟩ = some (.string o.tkey) := (by rw [hwa]; go_simp); have wa_c6 : wa.cell? ⟨w.heap.size, 6, none⟩ = some (.string o.twho) := (by rw [hwa]; go_simp); have wa_c7 : wa.cell? ⟨w.heap.size, 7, none⟩ = some (.int .i64 o.item) := (by rw [hwa]; go_simp); have wa_c8 : wa.cell? ⟨w.heap.size, 8, none⟩ = some (.int .i64 o.count) := (by rw [hwa]; go_simp); have wa_c9 : wa.cell? ⟨w.heap.size, 9, none⟩ = some (.int .i64 o.price) := (by rw [hwa]; go_simp); have wa_c10 : wa.cell? ⟨w.heap.size, 10, none⟩ = some (.bool o.buy) := (by rw [hwa]; go_simp); have wa_c11 : wa.cell? ⟨w.heap.size, 11, none⟩ = some (.int .i64 o.id) := (by rw [hwa]; go_simp); have wa_b : Below w.heap.size w wa := (by rw [hwa]; exact (by repeat (first | with_reducible exact Below.refl _ _ | with_reducible assumption | with_reducible refine Below.drew ?_ | with_reducible refine below_drawn ?_ | with_reducible refine Below.alloc ?_ (by first | omega | (simp; done) | (simp; omega) | (simp at *; omega)) _ | with_reducible refine Below.setCell ?_ (by first | omega | (simp; done) | (simp; omega) | (simp at *; omega)) _ | with_reducible refine Below.trans ?_ (Below.mono (by assumption) (by first | omega | (simp; done) | (simp; omega) | (simp at *; omega)))))); clear hwa)
    refine (Ha.out _).mono ?_
    (rintro e w1 ⟨rfl, w1_h⟩; obtain ⟨w1_hc, w1_hf⟩ := bcell w1_h; have w1_z := w1_h.size; have w1_b := wa_b.trans (w1_h.mono (by have := wa_b.size; omega)); have w1_le := w1_b.size; have w1_s0 : w.heap.size < w1.heap.size := (by omega); clear w1_h)
    go_wp2_with fail
    (refine calls_name fun wb hwb => ?_; have wb_b : Below w.heap.size w wb := (by rw [hwb]; exact (by repeat (first | with_reducible exact Below.refl _ _ | with_reducible assumption | with_reducible refine Below.drew ?_ | with_reducible refine below_drawn ?_ | with_reducible refine Below.alloc ?_ (by first | omega | (simp; done) | (simp; omega) | (simp at *; omega)) _ | with_reducible refine Below.setCell ?_ (by first | omega | (simp; done) | (simp; omega) | (simp at *; omega)) _ | with_reducible refine Below.trans ?_ (Below.mono (by assumption) (by first | omega | (simp; done) | (simp; omega) | (simp at *; omega)))))); clear hwb)
    refine (Hr.out _).mono ?_
    (rintro e w2 ⟨rfl, w2_h⟩; obtain ⟨w2_hc, w2_hf⟩ := bcell w2_h; have w2_z := w2_h.size; have w2_b := wb_b.trans (w2_h.mono (by have := wb_b.size; omega)); have w2_le := w2_b.size; clear w2_h)
    go_wp2_with fail
    go_ret
    exact ⟨rfl, (by repeat (first | with_reducible exact Below.refl _ _ | with_reducible assumption | with_reducible refine Below.drew ?_ | with_reducible refine below_drawn ?_ | with_reducible refine Below.alloc ?_ (by first | omega | (simp; done) | (simp; omega) | (simp at *; omega)) _ | with_reducible refine Below.setCell ?_ (by first | omega | (simp; done) | (simp; omega) | (simp at *; omega)) _ | with_reducible refine Below.trans ?_ (Below.mono (by assumption) (by first | omega | (simp; done) | (simp; omega) | (simp at *; omega)))))⟩
  | true =>
  rw [hm] at Hr Hm
  obtain ⟨q, hq, hq7⟩ := intMask7 which
  have hbd := may_bounds hm
  have hid1 : 0 ≤ o.id := by omega
  have hid2 : o.id ≤ 1099511627776 := by omega
  have hno := Lib.hid (fun k => xO_no hm k)
  clear hm hbd
  have hq8 : q = 0 ∨ q = 1 ∨ q = 2 ∨ q = 3 ∨ q = 4 ∨ q = 5 ∨ q = 6 ∨ q = 7 := by omega
  clear hq7
  rcases hq8 with rfl | rfl | rfl | rfl | rfl | rfl | rfl | rfl
  · have He := fun w => encode_no (xO o 0) w (hno.out 0)
    have Hx := fun w => may_any (xO o 0) w _ (hno.out 0)
    simp only [xO, e0] at He Hx
    have He := Lib.hid He
    have Hx := Lib.hid Hx
    go_enter Try.func4, Try.ntmps4
    go_wp2_with fail
    (refine calls_name fun wa hwa => ?_; have wa_s0 : w.heap.size < wa.heap.size := (by rw [hwa]; first | omega | (simp; done) | (simp; omega)); have wa_c0 : wa.cell? ⟨w.heap.size, 0, none⟩ = some (.int .i64 o.kind) := (by rw [hwa]; go_simp); have wa_c1 : wa.cell? ⟨w.heap.size, 1, none⟩ = some (.int .i64 o.client) := (by rw [hwa]; go_simp); have wa_c2 : wa.cell? ⟨w.heap.size, 2, none⟩ = some (.int .i64 o.seq) := (by rw [hwa]; go_simp); have wa_c3 : wa.cell? ⟨w.heap.size, 3, none⟩ = some (.string o.key) := (by rw [hwa]; go_simp); have wa_c4 : wa.cell? ⟨w.heap.size, 4, none⟩ = some (.string o.who) := (by rw [hwa]; go_simp); have wa_c5 : wa.cell? ⟨w.heap.size, 5, none⟩ = some (.string o.tkey) := (by rw [hwa]; go_simp); have wa_c6 : wa.cell? ⟨w.heap.size, 6, none⟩ = some (.string o.twho) := (by rw [hwa]; go_simp); have wa_c7 : wa.cell? ⟨w.heap.size, 7, none⟩ = some (.int .i64 o.item) := (by rw [hwa]; go_simp); have wa_c8 : wa.cell? ⟨w.heap.size, 8, none⟩ = some (.int .i64 o.count) := (by rw [hwa]; go_simp); have wa_c9 : wa.cell? ⟨w.heap.size, 9, none⟩ = some (.int .i64 o.price) := (by rw [hwa]; go_simp); have wa_c10 : wa.cell? ⟨w.heap.size, 10, none⟩ = some (.bool o.buy) := (by rw [hwa]; go_simp); have wa_c11 : wa.cell? ⟨w.heap.size, 11, none⟩ = some (.int .i64 o.id) := (by rw [hwa]; go_simp); have wa_b : Below w.heap.size w wa := (by rw [hwa]; exact (by repeat (first | with_reducible exact Below.refl _ _ | with_reducible assumption | with_reducible refine Below.drew ?_ | with_reducible refine below_drawn ?_ | with_reducible refine Below.alloc ?_ (by first | omega | (simp; done) | (simp; omega) | (simp at *; omega)) _ | with_reducible refine Below.setCell ?_ (by first | omega | (simp; done) | (simp; omega) | (simp at *; omega)) _ | with_reducible refine Below.trans ?_ (Below.mono (by assumption) (by first | omega | (simp; done) | (simp; omega) | (simp at *; omega)))))); clear hwa)
    refine (Ha.out _).mono ?_
    (rintro e w1 ⟨rfl, w1_h⟩; obtain ⟨w1_hc, w1_hf⟩ := bcell w1_h; have w1_z := w1_h.size; have w1_b := wa_b.trans (w1_h.mono (by have := wa_b.size; omega)); have w1_le := w1_b.size; have w1_s0 : w.heap.size < w1.heap.size := (by omega); clear w1_h)
    go_wp2_with fail
    (refine calls_name fun wb hwb => ?_; have wb_s0 : w.heap.size < wb.heap.size := (by rw [hwb]; first | omega | (simp; done) | (simp; omega)); have wb_c0 : wb.cell? ⟨w.heap.size, 0, none⟩ = some (.int .i64 o.kind) := (by rw [hwb]; go_simp); have wb_c1 : wb.cell? ⟨w.heap.size, 1, none⟩ = some (.int .i64 o.client) := (by rw [hwb]; go_simp); have wb_c2 : wb.cell? ⟨w.heap.size, 2, none⟩ = some (.int .i64 o.seq) := (by rw [hwb]; go_simp); have wb_c3 : wb.cell? ⟨w.heap.size, 3, none⟩ = some (.string o.key) := (by rw [hwb]; go_simp); have wb_c4 : wb.cell? ⟨w.heap.size, 4, none⟩ = some (.string o.who) := (by rw [hwb]; go_simp); have wb_c5 : wb.cell? ⟨w.heap.size, 5, none⟩ = some (.string o.tkey) := (by rw [hwb]; go_simp); have wb_c6 : wb.cell? ⟨w.heap.size, 6, none⟩ = some (.string o.twho) := (by rw [hwb]; go_simp); have wb_c7 : wb.cell? ⟨w.heap.size, 7, none⟩ = some (.int .i64 o.item) := (by rw [hwb]; go_simp); have wb_c8 : wb.cell? ⟨w.heap.size, 8, none⟩ = some (.int .i64 o.count) := (by rw [hwb]; go_simp); have wb_c9 : wb.cell? ⟨w.heap.size, 9, none⟩ = some (.int .i64 o.price) := (by rw [hwb]; go_simp); have wb_c10 : wb.cell? ⟨w.heap.size, 10, none⟩ = some (.bool o.buy) := (by rw [hwb]; go_simp); have wb_c11 : wb.cell? ⟨w.heap.size, 11, none⟩ = some (.int .i64 o.id) := (by rw [hwb]; go_simp); have wb_b : Below w.heap.size w wb := (by rw [hwb]; exact (by repeat (first | with_reducible exact Below.refl _ _ | with_reducible assumption | with_reducible refine Below.drew ?_ | with_reducible refine below_drawn ?_ | with_reducible refine Below.alloc ?_ (by first | omega | (simp; done) | (simp; omega) | (simp at *; omega)) _ | with_reducible refine Below.setCell ?_ (by first | omega | (simp; done) | (simp; omega) | (simp at *; omega)) _ | with_reducible refine Below.trans ?_ (Below.mono (by assumption) (by first | omega | (simp; done) | (simp; omega) | (simp at *; omega)))))); clear hwb)
    refine (Hr.out _).mono ?_
    (rintro e w2 ⟨rfl, w2_h⟩; obtain ⟨w2_hc, w2_hf⟩ := bcell w2_h; have w2_z := w2_h.size; have w2_b := wb_b.trans (w2_h.mono (by have := wb_b.size; omega)); have w2_le := w2_b.size; have w2_s0 : w.heap.size < w2.heap.size := (by omega); clear w2_h)
    go_wp2_with fail
    refine (He.out _).mono ?_
    rintro e w3 ⟨rfl, hb3⟩
    have w3_b : Below w.heap.size w w3 := (show Below w.heap.size w (w2.alloc _) from (by repeat (first | with_reducible exact Below.refl _ _ | with_reducible assumption | with_reducible refine Below.drew ?_ | with_reducible refine below_drawn ?_ | with_reducible refine Below.alloc ?_ (by first | omega | (simp; done) | (simp; omega) | (simp at *; omega)) _ | with_reducible refine Below.setCell ?_ (by first | omega | (simp; done) | (simp; omega) | (simp at *; omega)) _ | with_reducible refine Below.trans ?_ (Below.mono (by assumption) (by first | omega | (simp; done) | (simp; omega) | (simp at *; omega)))))).trans (hb3.mono (by simp; omega))
    obtain ⟨h3c, h3f⟩ := bcell hb3
    have z3 := hb3.size
    simp only [World.alloc, Array.size_push] at z3
    have y1 : w.heap.size < w2.heap.size + 1 := by omega
    have y2 : w.heap.size < w3.heap.size := by omega
    have y3 : w2.heap.size < w3.heap.size := by omega
    clear hb3
    go_wp2_with fail
    refine (Hm.out _).mono ?_
    rintro e w4 ⟨rfl, hb4⟩
    have w4_b : Below w.heap.size w w4 := w3_b.trans (hb4.mono (by omega))
    obtain ⟨h4c, h4f⟩ := bcell hb4
    clear hb4
    go_wp2_with fail
    refine (Hx.out _).mono ?_
    rintro e w5 ⟨rfl, hb5⟩
    have w5_b : Below w.heap.size w w5 := w4_b.trans (hb5.mono w4_b.size)
    clear hb5
    go_wp2_with fail
    refine (known_any _).mono ?_
    rintro e w6 ⟨rfl, hb6⟩
    have w6_b : Below w.heap.size w w6 := w5_b.trans (hb6.mono w5_b.size)
    clear hb6
    go_wp2_with fail
    go_ret
    exact ⟨rfl, w6_b⟩
  · have He := fun w => encode_no (xO o 1) w (hno.out 1)
    have Hx := fun w => may_any (xO o 1) w _ (hno.out 1)
    simp only [xO, e0] at He Hx
    have He := Lib.hid He
    have Hx := Lib.hid Hx
    go_enter Try.func4, Try.ntmps4
    go_wp2_with fail
    (refine calls_name fun wa hwa => ?_; have wa_s0 : w.heap.size < wa.heap.size := (by rw [hwa]; first | omega | (simp; done) | (simp; omega)); have wa_c0 : wa.cell? ⟨w.heap.size, 0, none⟩ = some (.int .i64 o.kind) := (by rw [hwa]; go_simp); have wa_c1 : wa.cell? ⟨w.heap.size, 1, none⟩ = some (.int .i64 o.client) := (by rw [hwa]; go_simp); have wa_c2 : wa.cell? ⟨w.heap.size, 2, none⟩ = some (.int .i64 o.seq) := (by rw [hwa]; go_simp); have wa_c3 : wa.cell? ⟨w.heap.size, 3, none⟩ = some (.string o.key) := (by rw [hwa]; go_simp); have wa_c4 : wa.cell? ⟨w.heap.size, 4, none⟩ = some (.string o.who) := (by rw [hwa]; go_simp); have wa_c5 : wa.cell? ⟨w.heap.size, 5, none⟩ = some (.string o.tkey) := (by rw [hwa]; go_simp); have wa_c6 : wa.cell? ⟨w.heap.size, 6, none⟩ = some (.string o.twho) := (by rw [hwa]; go_simp); have wa_c7 : wa.cell? ⟨w.heap.size, 7, none⟩ = some (.int .i64 o.item) := (by rw [hwa]; go_simp); have wa_c8 : wa.cell? ⟨w.heap.size, 8, none⟩ = some (.int .i64 o.count) := (by rw [hwa]; go_simp); have wa_c9 : wa.cell? ⟨w.heap.size, 9, none⟩ = some (.int .i64 o.price) := (by rw [hwa]; go_simp); have wa_c10 : wa.cell? ⟨w.heap.size, 10, none⟩ = some (.bool o.buy) := (by rw [hwa]; go_simp); have wa_c11 : wa.cell? ⟨w.heap.size, 11, none⟩ = some (.int .i64 o.id) := (by rw [hwa]; go_simp); have wa_b : Below w.heap.size w wa := (by rw [hwa]; exact (by repeat (first | with_reducible exact Below.refl _ _ | with_reducible assumption | with_reducible refine Below.drew ?_ | with_reducible refine below_drawn ?_ | with_reducible refine Below.alloc ?_ (by first | omega | (simp; done) | (simp; omega) | (simp at *; omega)) _ | with_reducible refine Below.setCell ?_ (by first | omega | (simp; done) | (simp; omega) | (simp at *; omega)) _ | with_reducible refine Below.trans ?_ (Below.mono (by assumption) (by first | omega | (simp; done) | (simp; omega) | (simp at *; omega)))))); clear hwa)
    refine (Ha.out _).mono ?_
    (rintro e w1 ⟨rfl, w1_h⟩; obtain ⟨w1_hc, w1_hf⟩ := bcell w1_h; have w1_z := w1_h.size; have w1_b := wa_b.trans (w1_h.mono (by have := wa_b.size; omega)); have w1_le := w1_b.size; have w1_s0 : w.heap.size < w1.heap.size := (by omega); clear w1_h)
    go_wp2_with fail
    (refine calls_name fun wb hwb => ?_; have wb_s0 : w.heap.size < wb.heap.size := (by rw [hwb]; first | omega | (simp; done) | (simp; omega)); have wb_c0 : wb.cell? ⟨w.heap.size, 0, none⟩ = some (.int .i64 o.kind) := (by rw [hwb]; go_simp); have wb_c1 : wb.cell? ⟨w.heap.size, 1, none⟩ = some (.int .i64 o.client) := (by rw [hwb]; go_simp); have wb_c2 : wb.cell? ⟨w.heap.size, 2, none⟩ = some (.int .i64 o.seq) := (by rw [hwb]; go_simp); have wb_c3 : wb.cell? ⟨w.heap.size, 3, none⟩ = some (.string o.key) := (by rw [hwb]; go_simp); have wb_c4 : wb.cell? ⟨w.heap.size, 4, none⟩ = some (.string o.who) := (by rw [hwb]; go_simp); have wb_c5 : wb.cell? ⟨w.heap.size, 5, none⟩ = some (.string o.tkey) := (by rw [hwb]; go_simp); have wb_c6 : wb.cell? ⟨w.heap.size, 6, none⟩ = some (.string o.twho) := (by rw [hwb]; go_simp); have wb_c7 : wb.cell? ⟨w.heap.size, 7, none⟩ = some (.int .i64 o.item) := (by rw [hwb]; go_simp); have wb_c8 : wb.cell? ⟨w.heap.size, 8, none⟩ = some (.int .i64 o.count) := (by rw [hwb]; go_simp); have wb_c9 : wb.cell? ⟨w.heap.size, 9, none⟩ = some (.int .i64 o.price) := (by rw [hwb]; go_simp); have wb_c10 : wb.cell? ⟨w.heap.size, 10, none⟩ = some (.bool o.buy) := (by rw [hwb]; go_simp); have wb_c11 : wb.cell? ⟨w.heap.size, 11, none⟩ = some (.int .i64 o.id) := (by rw [hwb]; go_simp); have wb_b : Below w.heap.size w wb := (by rw [hwb]; exact (by repeat (first | with_reducible exact Below.refl _ _ | with_reducible assumption | with_reducible refine Below.drew ?_ | with_reducible refine below_drawn ?_ | with_reducible refine Below.alloc ?_ (by first | omega | (simp; done) | (simp; omega) | (simp at *; omega)) _ | with_reducible refine Below.setCell ?_ (by first | omega | (simp; done) | (simp; omega) | (simp at *; omega)) _ | with_reducible refine Below.trans ?_ (Below.mono (by assumption) (by first | omega | (simp; done) | (simp; omega) | (simp at *; omega)))))); clear hwb)
    refine (Hr.out _).mono ?_
    (rintro e w2 ⟨rfl, w2_h⟩; obtain ⟨w2_hc, w2_hf⟩ := bcell w2_h; have w2_z := w2_h.size; have w2_b := wb_b.trans (w2_h.mono (by have := wb_b.size; omega)); have w2_le := w2_b.size; have w2_s0 : w.heap.size < w2.heap.size := (by omega); clear w2_h)
    go_wp2_with fail
    refine (He.out _).mono ?_
    rintro e w3 ⟨rfl, hb3⟩
    have w3_b : Below w.heap.size w w3 := (show Below w.heap.size w (w2.alloc _) from (by repeat (first | with_reducible exact Below.refl _ _ | with_reducible assumption | with_reducible refine Below.drew ?_ | with_reducible refine below_drawn ?_ | with_reducible refine Below.alloc ?_ (by first | omega | (simp; done) | (simp; omega) | (simp at *; omega)) _ | with_reducible refine Below.setCell ?_ (by first | omega | (simp; done) | (simp; omega) | (simp at *; omega)) _ | with_reducible refine Below.trans ?_ (Below.mono (by assumption) (by first | omega | (simp; done) | (simp; omega) | (simp at *; omega)))))).trans (hb3.mono (by simp; omega))
    obtain ⟨h3c, h3f⟩ := bcell hb3
    have z3 := hb3.size
    simp only [World.alloc, Array.size_push] at z3
    have y1 : w.heap.size < w2.heap.size + 1 := by omega
    have y2 : w.heap.size < w3.heap.size := by omega
    have y3 : w2.heap.size < w3.heap.size := by omega
    clear hb3
    go_wp2_with fail
    refine (Hm.out _).mono ?_
    rintro e w4 ⟨rfl, hb4⟩
    have w4_b : Below w.heap.size w w4 := w3_b.trans (hb4.mono (by omega))
    obtain ⟨h4c, h4f⟩ := bcell hb4
    clear hb4
    go_wp2_with fail
    refine (Hx.out _).mono ?_
    rintro e w5 ⟨rfl, hb5⟩
    have w5_b : Below w.heap.size w w5 := w4_b.trans (hb5.mono w4_b.size)
    clear hb5
    go_wp2_with fail
    refine (known_any _).mono ?_
    rintro e w6 ⟨rfl, hb6⟩
    have w6_b : Below w.heap.size w w6 := w5_b.trans (hb6.mono w5_b.size)
    clear hb6
    go_wp2_with fail
    go_ret
    exact ⟨rfl, w6_b⟩
  · have He := fun w => encode_no (xO o 2) w (hno.out 2)
    have Hx := fun w => may_any (xO o 2) w _ (hno.out 2)
    simp only [xO, e0] at He Hx
    have He := Lib.hid He
    have Hx := Lib.hid Hx
    go_enter Try.func4, Try.ntmps4
    go_wp2_with fail
    (refine calls_name fun wa hwa => ?_; have wa_s0 : w.heap.size < wa.heap.size := (by rw [hwa]; first | omega | (simp; done) | (simp; omega)); have wa_c0 : wa.cell? ⟨w.heap.size, 0, none⟩ = some (.int .i64 o.kind) := (by rw [hwa]; go_simp); have wa_c1 : wa.cell? ⟨w.heap.size, 1, none⟩ = some (.int .i64 o.client) := (by rw [hwa]; go_simp); have wa_c2 : wa.cell? ⟨w.heap.size, 2, none⟩ = some (.int .i64 o.seq) := (by rw [hwa]; go_simp); have wa_c3 : wa.cell? ⟨w.heap.size, 3, none⟩ = some (.string o.key) := (by rw [hwa]; go_simp); have wa_c4 : wa.cell? ⟨w.heap.size, 4, none⟩ = some (.string o.who) := (by rw [hwa]; go_simp); have wa_c5 : wa.cell? ⟨w.heap.size, 5, none⟩ = some (.string o.tkey) := (by rw [hwa]; go_simp); have wa_c6 : wa.cell? ⟨w.heap.size, 6, none⟩ = some (.string o.twho) := (by rw [hwa]; go_simp); have wa_c7 : wa.cell? ⟨w.heap.size, 7, none⟩ = some (.int .i64 o.item) := (by rw [hwa]; go_simp); have wa_c8 : wa.cell? ⟨w.heap.size, 8, none⟩ = some (.int .i64 o.count) := (by rw [hwa]; go_simp); have wa_c9 : wa.cell? ⟨w.heap.size, 9, none⟩ = some (.int .i64 o.price) := (by rw [hwa]; go_simp); have wa_c10 : wa.cell? ⟨w.heap.size, 10, none⟩ = some (.bool o.buy) := (by rw [hwa]; go_simp); have wa_c11 : wa.cell? ⟨w.heap.size, 11, none⟩ = some (.int .i64 o.id) := (by rw [hwa]; go_simp); have wa_b : Below w.heap.size w wa := (by rw [hwa]; exact (by repeat (first | with_reducible exact Below.refl _ _ | with_reducible assumption | with_reducible refine Below.drew ?_ | with_reducible refine below_drawn ?_ | with_reducible refine Below.alloc ?_ (by first | omega | (simp; done) | (simp; omega) | (simp at *; omega)) _ | with_reducible refine Below.setCell ?_ (by first | omega | (simp; done) | (simp; omega) | (simp at *; omega)) _ | with_reducible refine Below.trans ?_ (Below.mono (by assumption) (by first | omega | (simp; done) | (simp; omega) | (simp at *; omega)))))); clear hwa)
    refine (Ha.out _).mono ?_
    (rintro e w1 ⟨rfl, w1_h⟩; obtain ⟨w1_hc, w1_hf⟩ := bcell w1_h; have w1_z := w1_h.size; have w1_b := wa_b.trans (w1_h.mono (by have := wa_b.size; omega)); have w1_le := w1_b.size; have w1_s0 : w.heap.size < w1.heap.size := (by omega); clear w1_h)
    go_wp2_with fail
    (refine calls_name fun wb hwb => ?_; have wb_s0 : w.heap.size < wb.heap.size := (by rw [hwb]; first | omega | (simp; done) | (simp; omega)); have wb_c0 : wb.cell? ⟨w.heap.size, 0, none⟩ = some (.int .i64 o.kind) := (by rw [hwb]; go_simp); have wb_c1 : wb.cell? ⟨w.heap.size, 1, none⟩ = some (.int .i64 o.client) := (by rw [hwb]; go_simp); have wb_c2 : wb.cell? ⟨w.heap.size, 2, none⟩ = some (.int .i64 o.seq) := (by rw [hwb]; go_simp); have wb_c3 : wb.cell? ⟨w.heap.size, 3, none⟩ = some (.string o.key) := (by rw [hwb]; go_simp); have wb_c4 : wb.cell? ⟨w.heap.size, 4, none⟩ = some (.string o.who) := (by rw [hwb]; go_simp); have wb_c5 : wb.cell? ⟨w.heap.size, 5, none⟩ = some (.string o.tkey) := (by rw [hwb]; go_simp); have wb_c6 : wb.cell? ⟨w.heap.size, 6, none⟩ = some (.string o.twho) := (by rw [hwb]; go_simp); have wb_c7 : wb.cell? ⟨w.heap.size, 7, none⟩ = some (.int .i64 o.item) := (by rw [hwb]; go_simp); have wb_c8 : wb.cell? ⟨w.heap.size, 8, none⟩ = some (.int .i64 o.count) := (by rw [hwb]; go_simp); have wb_c9 : wb.cell? ⟨w.heap.size, 9, none⟩ = some (.int .i64 o.price) := (by rw [hwb]; go_simp); have wb_c10 : wb.cell? ⟨w.heap.size, 10, none⟩ = some (.bool o.buy) := (by rw [hwb]; go_simp); have wb_c11 : wb.cell? ⟨w.heap.size, 11, none⟩ = some (.int .i64 o.id) := (by rw [hwb]; go_simp); have wb_b : Below w.heap.size w wb := (by rw [hwb]; exact (by repeat (first | with_reducible exact Below.refl _ _ | with_reducible assumption | with_reducible refine Below.drew ?_ | with_reducible refine below_drawn ?_ | with_reducible refine Below.alloc ?_ (by first | omega | (simp; done) | (simp; omega) | (simp at *; omega)) _ | with_reducible refine Below.setCell ?_ (by first | omega | (simp; done) | (simp; omega) | (simp at *; omega)) _ | with_reducible refine Below.trans ?_ (Below.mono (by assumption) (by first | omega | (simp; done) | (simp; omega) | (simp at *; omega)))))); clear hwb)
    refine (Hr.out _).mono ?_
    (rintro e w2 ⟨rfl, w2_h⟩; obtain ⟨w2_hc, w2_hf⟩ := bcell w2_h; have w2_z := w2_h.size; have w2_b := wb_b.trans (w2_h.mono (by have := wb_b.size; omega)); have w2_le := w2_b.size; have w2_s0 : w.heap.size < w2.heap.size := (by omega); clear w2_h)
    go_wp2_with fail
    refine (He.out _).mono ?_
    rintro e w3 ⟨rfl, hb3⟩
    have w3_b : Below w.heap.size w w3 := (show Below w.heap.size w (w2.alloc _) from (by repeat (first | with_reducible exact Below.refl _ _ | with_reducible assumption | with_reducible refine Below.drew ?_ | with_reducible refine below_drawn ?_ | with_reducible refine Below.alloc ?_ (by first | omega | (simp; done) | (simp; omega) | (simp at *; omega)) _ | with_reducible refine Below.setCell ?_ (by first | omega | (simp; done) | (simp; omega) | (simp at *; omega)) _ | with_reducible refine Below.trans ?_ (Below.mono (by assumption) (by first | omega | (simp; done) | (simp; omega) | (simp at *; omega)))))).trans (hb3.mono (by simp; omega))
    obtain ⟨h3c, h3f⟩ := bcell hb3
    have z3 := hb3.size
    simp only [World.alloc, Array.size_push] at z3
    have y1 : w.heap.size < w2.heap.size + 1 := by omega
    have y2 : w.heap.size < w3.heap.size := by omega
    have y3 : w2.heap.size < w3.heap.size := by omega
    clear hb3
    go_wp2_with fail
    refine (Hm.out _).mono ?_
    rintro e w4 ⟨rfl, hb4⟩
    have w4_b : Below w.heap.size w w4 := w3_b.trans (hb4.mono (by omega))
    obtain ⟨h4c, h4f⟩ := bcell hb4
    clear hb4
    go_wp2_with fail
    refine (Hx.out _).mono ?_
    rintro e w5 ⟨rfl, hb5⟩
    have w5_b : Below w.heap.size w w5 := w4_b.trans (hb5.mono w4_b.size)
    clear hb5
    go_wp2_with fail
    refine (known_any _).mono ?_
    rintro e w6 ⟨rfl, hb6⟩
    have w6_b : Below w.heap.size w w6 := w5_b.trans (hb6.mono w5_b.size)
    clear hb6
    go_wp2_with fail
    go_ret
    exact ⟨rfl, w6_b⟩
  · have He := fun w => encode_no (xO o 3) w (hno.out 3)
    have Hx := fun w => may_any (xO o 3) w _ (hno.out 3)
    simp only [xO, e0] at He Hx
    have He := Lib.hid He
    have Hx := Lib.hid Hx
    go_enter Try.func4, Try.ntmps4
    go_wp2_with fail
    (refine calls_name fun wa hwa => ?_; have wa_s0 : w.heap.size < wa.heap.size := (by rw [hwa]; first | omega | (simp; done) | (simp; omega)); have wa_c0 : wa.cell? ⟨w.heap.size, 0, none⟩ = some (.int .i64 o.kind) := (by rw [hwa]; go_simp); have wa_c1 : wa.cell? ⟨w.heap.size, 1, none⟩ = some (.int .i64 o.client) := (by rw [hwa]; go_simp); have wa_c2 : wa.cell? ⟨w.heap.size, 2, none⟩ = some (.int .i64 o.seq) := (by rw [hwa]; go_simp); have wa_c3 : wa.cell? ⟨w.heap.size, 3, none⟩ = some (.string o.key) := (by rw [hwa]; go_simp); have wa_c4 : wa.cell? ⟨w.heap.size, 4, none⟩ = some (.string o.who) := (by rw [hwa]; go_simp); have wa_c5 : wa.cell? ⟨w.heap.size, 5, none⟩ = some (.string o.tkey) := (by rw [hwa]; go_simp); have wa_c6 : wa.cell? ⟨w.heap.size, 6, none⟩ = some (.string o.twho) := (by rw [hwa]; go_simp); have wa_c7 : wa.cell? ⟨w.heap.size, 7, none⟩ = some (.int .i64 o.item) := (by rw [hwa]; go_simp); have wa_c8 : wa.cell? ⟨w.heap.size, 8, none⟩ = some (.int .i64 o.count) := (by rw [hwa]; go_simp); have wa_c9 : wa.cell? ⟨w.heap.size, 9, none⟩ = some (.int .i64 o.price) := (by rw [hwa]; go_simp); have wa_c10 : wa.cell? ⟨w.heap.size, 10, none⟩ = some (.bool o.buy) := (by rw [hwa]; go_simp); have wa_c11 : wa.cell? ⟨w.heap.size, 11, none⟩ = some (.int .i64 o.id) := (by rw [hwa]; go_simp); have wa_b : Below w.heap.size w wa := (by rw [hwa]; exact (by repeat (first | with_reducible exact Below.refl _ _ | with_reducible assumption | with_reducible refine Below.drew ?_ | with_reducible refine below_drawn ?_ | with_reducible refine Below.alloc ?_ (by first | omega | (simp; done) | (simp; omega) | (simp at *; omega)) _ | with_reducible refine Below.setCell ?_ (by first | omega | (simp; done) | (simp; omega) | (simp at *; omega)) _ | with_reducible refine Below.trans ?_ (Below.mono (by assumption) (by first | omega | (simp; done) | (simp; omega) | (simp at *; omega)))))); clear hwa)
    refine (Ha.out _).mono ?_
    (rintro e w1 ⟨rfl, w1_h⟩; obtain ⟨w1_hc, w1_hf⟩ := bcell w1_h; have w1_z := w1_h.size; have w1_b := wa_b.trans (w1_h.mono (by have := wa_b.size; omega)); have w1_le := w1_b.size; have w1_s0 : w.heap.size < w1.heap.size := (by omega); clear w1_h)
    go_wp2_with fail
    (refine calls_name fun wb hwb => ?_; have wb_s0 : w.heap.size < wb.heap.size := (by rw [hwb]; first | omega | (simp; done) | (simp; omega)); have wb_c0 : wb.cell? ⟨w.heap.size, 0, none⟩ = some (.int .i64 o.kind) := (by rw [hwb]; go_simp); have wb_c1 : wb.cell? ⟨w.heap.size, 1, none⟩ = some (.int .i64 o.client) := (by rw [hwb]; go_simp); have wb_c2 : wb.cell? ⟨w.heap.size, 2, none⟩ = some (.int .i64 o.seq) := (by rw [hwb]; go_simp); have wb_c3 : wb.cell? ⟨w.heap.size, 3, none⟩ = some (.string o.key) := (by rw [hwb]; go_simp); have wb_c4 : wb.cell? ⟨w.heap.size, 4, none⟩ = some (.string o.who) := (by rw [hwb]; go_simp); have wb_c5 : wb.cell? ⟨w.heap.size, 5, none⟩ = some (.string o.tkey) := (by rw [hwb]; go_simp); have wb_c6 : wb.cell? ⟨w.heap.size, 6, none⟩ = some (.string o.twho) := (by rw [hwb]; go_simp); have wb_c7 : wb.cell? ⟨w.heap.size, 7, none⟩ = some (.int .i64 o.item) := (by rw [hwb]; go_simp); have wb_c8 : wb.cell? ⟨w.heap.size, 8, none⟩ = some (.int .i64 o.count) := (by rw [hwb]; go_simp); have wb_c9 : wb.cell? ⟨w.heap.size, 9, none⟩ = some (.int .i64 o.price) := (by rw [hwb]; go_simp); have wb_c10 : wb.cell? ⟨w.heap.size, 10, none⟩ = some (.bool o.buy) := (by rw [hwb]; go_simp); have wb_c11 : wb.cell? ⟨w.heap.size, 11, none⟩ = some (.int .i64 o.id) := (by rw [hwb]; go_simp); have wb_b : Below w.heap.size w wb := (by rw [hwb]; exact (by repeat (first | with_reducible exact Below.refl _ _ | with_reducible assumption | with_reducible refine Below.drew ?_ | with_reducible refine below_drawn ?_ | with_reducible refine Below.alloc ?_ (by first | omega | (simp; done) | (simp; omega) | (simp at *; omega)) _ | with_reducible refine Below.setCell ?_ (by first | omega | (simp; done) | (simp; omega) | (simp at *; omega)) _ | with_reducible refine Below.trans ?_ (Below.mono (by assumption) (by first | omega | (simp; done) | (simp; omega) | (simp at *; omega)))))); clear hwb)
    refine (Hr.out _).mono ?_
    (rintro e w2 ⟨rfl, w2_h⟩; obtain ⟨w2_hc, w2_hf⟩ := bcell w2_h; have w2_z := w2_h.size; have w2_b := wb_b.trans (w2_h.mono (by have := wb_b.size; omega)); have w2_le := w2_b.size; have w2_s0 : w.heap.size < w2.heap.size := (by omega); clear w2_h)
    go_wp2_with fail
    refine (He.out _).mono ?_
    rintro e w3 ⟨rfl, hb3⟩
    have w3_b : Below w.heap.size w w3 := (show Below w.heap.size w (w2.alloc _) from (by repeat (first | with_reducible exact Below.refl _ _ | with_reducible assumption | with_reducible refine Below.drew ?_ | with_reducible refine below_drawn ?_ | with_reducible refine Below.alloc ?_ (by first | omega | (simp; done) | (simp; omega) | (simp at *; omega)) _ | with_reducible refine Below.setCell ?_ (by first | omega | (simp; done) | (simp; omega) | (simp at *; omega)) _ | with_reducible refine Below.trans ?_ (Below.mono (by assumption) (by first | omega | (simp; done) | (simp; omega) | (simp at *; omega)))))).trans (hb3.mono (by simp; omega))
    obtain ⟨h3c, h3f⟩ := bcell hb3
    have z3 := hb3.size
    simp only [World.alloc, Array.size_push] at z3
    have y1 : w.heap.size < w2.heap.size + 1 := by omega
    have y2 : w.heap.size < w3.heap.size := by omega
    have y3 : w2.heap.size < w3.heap.size := by omega
    clear hb3
    go_wp2_with fail
    refine (Hm.out _).mono ?_
    rintro e w4 ⟨rfl, hb4⟩
    have w4_b : Below w.heap.size w w4 := w3_b.trans (hb4.mono (by omega))
    obtain ⟨h4c, h4f⟩ := bcell hb4
    clear hb4
    go_wp2_with fail
    refine (Hx.out _).mono ?_
    rintro e w5 ⟨rfl, hb5⟩
    have w5_b : Below w.heap.size w w5 := w4_b.trans (hb5.mono w4_b.size)
    clear hb5
    go_wp2_with fail
    refine (known_any _).mono ?_
    rintro e w6 ⟨rfl, hb6⟩
    have w6_b : Below w.heap.size w w6 := w5_b.trans (hb6.mono w5_b.size)
    clear hb6
    go_wp2_with fail
    go_ret
    exact ⟨rfl, w6_b⟩
  · have He := fun w => encode_no (xO o 4) w (hno.out 4)
    have Hx := fun w => may_any (xO o 4) w _ (hno.out 4)
    simp only [xO, e0] at He Hx
    have He := Lib.hid He
    have Hx := Lib.hid Hx
    go_enter Try.func4, Try.ntmps4
    go_wp2_with fail
    (refine calls_name fun wa hwa => ?_; have wa_s0 : w.heap.size < wa.heap.size := (by rw [hwa]; first | omega | (simp; done) | (simp; omega)); have wa_c0 : wa.cell? ⟨w.heap.size, 0, none⟩ = some (.int .i64 o.kind) := (by rw [hwa]; go_simp); have wa_c1 : wa.cell? ⟨w.heap.size, 1, none⟩ = some (.int .i64 o.client) := (by rw [hwa]; go_simp); have wa_c2 : wa.cell? ⟨w.heap.size, 2, none⟩ = some (.int .i64 o.seq) := (by rw [hwa]; go_simp); have wa_c3 : wa.cell? ⟨w.heap.size, 3, none⟩ = some (.string o.key) := (by rw [hwa]; go_simp); have wa_c4 : wa.cell? ⟨w.heap.size, 4, none⟩ = some (.string o.who) := (by rw [hwa]; go_simp); have wa_c5 : wa.cell? ⟨w.heap.size, 5, none⟩ = some (.string o.tkey) := (by rw [hwa]; go_simp); have wa_c6 : wa.cell? ⟨w.heap.size, 6, none⟩ = some (.string o.twho) := (by rw [hwa]; go_simp); have wa_c7 : wa.cell? ⟨w.heap.size, 7, none⟩ = some (.int .i64 o.item) := (by rw [hwa]; go_simp); have wa_c8 : wa.cell? ⟨w.heap.size, 8, none⟩ = some (.int .i64 o.count) := (by rw [hwa]; go_simp); have wa_c9 : wa.cell? ⟨w.heap.size, 9, none⟩ = some (.int .i64 o.price) := (by rw [hwa]; go_simp); have wa_c10 : wa.cell? ⟨w.heap.size, 10, none⟩ = some (.bool o.buy) := (by rw [hwa]; go_simp); have wa_c11 : wa.cell? ⟨w.heap.size, 11, none⟩ = some (.int .i64 o.id) := (by rw [hwa]; go_simp); have wa_b : Below w.heap.size w wa := (by rw [hwa]; exact (by repeat (first | with_reducible exact Below.refl _ _ | with_reducible assumption | with_reducible refine Below.drew ?_ | with_reducible refine below_drawn ?_ | with_reducible refine Below.alloc ?_ (by first | omega | (simp; done) | (simp; omega) | (simp at *; omega)) _ | with_reducible refine Below.setCell ?_ (by first | omega | (simp; done) | (simp; omega) | (simp at *; omega)) _ | with_reducible refine Below.trans ?_ (Below.mono (by assumption) (by first | omega | (simp; done) | (simp; omega) | (simp at *; omega)))))); clear hwa)
    refine (Ha.out _).mono ?_
    (rintro e w1 ⟨rfl, w1_h⟩; obtain ⟨w1_hc, w1_hf⟩ := bcell w1_h; have w1_z := w1_h.size; have w1_b := wa_b.trans (w1_h.mono (by have := wa_b.size; omega)); have w1_le := w1_b.size; have w1_s0 : w.heap.size < w1.heap.size := (by omega); clear w1_h)
    go_wp2_with fail
    (refine calls_name fun wb hwb => ?_; have wb_s0 : w.heap.size < wb.heap.size := (by rw [hwb]; first | omega | (simp; done) | (simp; omega)); have wb_c0 : wb.cell? ⟨w.heap.size, 0, none⟩ = some (.int .i64 o.kind) := (by rw [hwb]; go_simp); have wb_c1 : wb.cell? ⟨w.heap.size, 1, none⟩ = some (.int .i64 o.client) := (by rw [hwb]; go_simp); have wb_c2 : wb.cell? ⟨w.heap.size, 2, none⟩ = some (.int .i64 o.seq) := (by rw [hwb]; go_simp); have wb_c3 : wb.cell? ⟨w.heap.size, 3, none⟩ = some (.string o.key) := (by rw [hwb]; go_simp); have wb_c4 : wb.cell? ⟨w.heap.size, 4, none⟩ = some (.string o.who) := (by rw [hwb]; go_simp); have wb_c5 : wb.cell? ⟨w.heap.size, 5, none⟩ = some (.string o.tkey) := (by rw [hwb]; go_simp); have wb_c6 : wb.cell? ⟨w.heap.size, 6, none⟩ = some (.string o.twho) := (by rw [hwb]; go_simp); have wb_c7 : wb.cell? ⟨w.heap.size, 7, none⟩ = some (.int .i64 o.item) := (by rw [hwb]; go_simp); have wb_c8 : wb.cell? ⟨w.heap.size, 8, none⟩ = some (.int .i64 o.count) := (by rw [hwb]; go_simp); have wb_c9 : wb.cell? ⟨w.heap.size, 9, none⟩ = some (.int .i64 o.price) := (by rw [hwb]; go_simp); have wb_c10 : wb.cell? ⟨w.heap.size, 10, none⟩ = some (.bool o.buy) := (by rw [hwb]; go_simp); have wb_c11 : wb.cell? ⟨w.heap.size, 11, none⟩ = some (.int .i64 o.id) := (by rw [hwb]; go_simp); have wb_b : Below w.heap.size w wb := (by rw [hwb]; exact (by repeat (first | with_reducible exact Below.refl _ _ | with_reducible assumption | with_reducible refine Below.drew ?_ | with_reducible refine below_drawn ?_ | with_reducible refine Below.alloc ?_ (by first | omega | (simp; done) | (simp; omega) | (simp at *; omega)) _ | with_reducible refine Below.setCell ?_ (by first | omega | (simp; done) | (simp; omega) | (simp at *; omega)) _ | with_reducible refine Below.trans ?_ (Below.mono (by assumption) (by first | omega | (simp; done) | (simp; omega) | (simp at *; omega)))))); clear hwb)
    refine (Hr.out _).mono ?_
    (rintro e w2 ⟨rfl, w2_h⟩; obtain ⟨w2_hc, w2_hf⟩ := bcell w2_h; have w2_z := w2_h.size; have w2_b := wb_b.trans (w2_h.mono (by have := wb_b.size; omega)); have w2_le := w2_b.size; have w2_s0 : w.heap.size < w2.heap.size := (by omega); clear w2_h)
    go_wp2_with fail
    refine (He.out _).mono ?_
    rintro e w3 ⟨rfl, hb3⟩
    have w3_b : Below w.heap.size w w3 := (show Below w.heap.size w (w2.alloc _) from (by repeat (first | with_reducible exact Below.refl _ _ | with_reducible assumption | with_reducible refine Below.drew ?_ | with_reducible refine below_drawn ?_ | with_reducible refine Below.alloc ?_ (by first | omega | (simp; done) | (simp; omega) | (simp at *; omega)) _ | with_reducible refine Below.setCell ?_ (by first | omega | (simp; done) | (simp; omega) | (simp at *; omega)) _ | with_reducible refine Below.trans ?_ (Below.mono (by assumption) (by first | omega | (simp; done) | (simp; omega) | (simp at *; omega)))))).trans (hb3.mono (by simp; omega))
    obtain ⟨h3c, h3f⟩ := bcell hb3
    have z3 := hb3.size
    simp only [World.alloc, Array.size_push] at z3
    have y1 : w.heap.size < w2.heap.size + 1 := by omega
    have y2 : w.heap.size < w3.heap.size := by omega
    have y3 : w2.heap.size < w3.heap.size := by omega
    clear hb3
    go_wp2_with fail
    refine (Hm.out _).mono ?_
    rintro e w4 ⟨rfl, hb4⟩
    have w4_b : Below w.heap.size w w4 := w3_b.trans (hb4.mono (by omega))
    obtain ⟨h4c, h4f⟩ := bcell hb4
    clear hb4
    go_wp2_with fail
    refine (Hx.out _).mono ?_
    rintro e w5 ⟨rfl, hb5⟩
    have w5_b : Below w.heap.size w w5 := w4_b.trans (hb5.mono w4_b.size)
    clear hb5
    go_wp2_with fail
    refine (known_any _).mono ?_
    rintro e w6 ⟨rfl, hb6⟩
    have w6_b : Below w.heap.size w w6 := w5_b.trans (hb6.mono w5_b.size)
    clear hb6
    go_wp2_with fail
    go_ret
    exact ⟨rfl, w6_b⟩
  · have He := fun w => encode_no (xO o 5) w (hno.out 5)
    have Hx := fun w => may_any (xO o 5) w _ (hno.out 5)
    simp only [xO, e0] at He Hx
    have He := Lib.hid He
    have Hx := Lib.hid Hx
    go_enter Try.func4, Try.ntmps4
    go_wp2_with fail
    (refine calls_name fun wa hwa => ?_; have wa_s0 : w.heap.size < wa.heap.size := (by rw [hwa]; first | omega | (simp; done) | (simp; omega)); have wa_c0 : wa.cell? ⟨w.heap.size, 0, none⟩ = some (.int .i64 o.kind) := (by rw [hwa]; go_simp); have wa_c1 : wa.cell? ⟨w.heap.size, 1, none⟩ = some (.int .i64 o.client) := (by rw [hwa]; go_simp); have wa_c2 : wa.cell? ⟨w.heap.size, 2, none⟩ = some (.int .i64 o.seq) := (by rw [hwa]; go_simp); have wa_c3 : wa.cell? ⟨w.heap.size, 3, none⟩ = some (.string o.key) := (by rw [hwa]; go_simp); have wa_c4 : wa.cell? ⟨w.heap.size, 4, none⟩ = some (.string o.who) := (by rw [hwa]; go_simp); have wa_c5 : wa.cell? ⟨w.heap.size, 5, none⟩ = some (.string o.tkey) := (by rw [hwa]; go_simp); have wa_c6 : wa.cell? ⟨w.heap.size, 6, none⟩ = some (.string o.twho) := (by rw [hwa]; go_simp); have wa_c7 : wa.cell? ⟨w.heap.size, 7, none⟩ = some (.int .i64 o.item) := (by rw [hwa]; go_simp); have wa_c8 : wa.cell? ⟨w.heap.size, 8, none⟩ = some (.int .i64 o.count) := (by rw [hwa]; go_simp); have wa_c9 : wa.cell? ⟨w.heap.size, 9, none⟩ = some (.int .i64 o.price) := (by rw [hwa]; go_simp); have wa_c10 : wa.cell? ⟨w.heap.size, 10, none⟩ = some (.bool o.buy) := (by rw [hwa]; go_simp); have wa_c11 : wa.cell? ⟨w.heap.size, 11, none⟩ = some (.int .i64 o.id) := (by rw [hwa]; go_simp); have wa_b : Below w.heap.size w wa := (by rw [hwa]; exact (by repeat (first | with_reducible exact Below.refl _ _ | with_reducible assumption | with_reducible refine Below.drew ?_ | with_reducible refine below_drawn ?_ | with_reducible refine Below.alloc ?_ (by first | omega | (simp; done) | (simp; omega) | (simp at *; omega)) _ | with_reducible refine Below.setCell ?_ (by first | omega | (simp; done) | (simp; omega) | (simp at *; omega)) _ | with_reducible refine Below.trans ?_ (Below.mono (by assumption) (by first | omega | (simp; done) | (simp; omega) | (simp at *; omega)))))); clear hwa)
    refine (Ha.out _).mono ?_
    (rintro e w1 ⟨rfl, w1_h⟩; obtain ⟨w1_hc, w1_hf⟩ := bcell w1_h; have w1_z := w1_h.size; have w1_b := wa_b.trans (w1_h.mono (by have := wa_b.size; omega)); have w1_le := w1_b.size; have w1_s0 : w.heap.size < w1.heap.size := (by omega); clear w1_h)
    go_wp2_with fail
    (refine calls_name fun wb hwb => ?_; have wb_s0 : w.heap.size < wb.heap.size := (by rw [hwb]; first | omega | (simp; done) | (simp; omega)); have wb_c0 : wb.cell? ⟨w.heap.size, 0, none⟩ = some (.int .i64 o.kind) := (by rw [hwb]; go_simp); have wb_c1 : wb.cell? ⟨w.heap.size, 1, none⟩ = some (.int .i64 o.client) := (by rw [hwb]; go_simp); have wb_c2 : wb.cell? ⟨w.heap.size, 2, none⟩ = some (.int .i64 o.seq) := (by rw [hwb]; go_simp); have wb_c3 : wb.cell? ⟨w.heap.size, 3, none⟩ = some (.string o.key) := (by rw [hwb]; go_simp); have wb_c4 : wb.cell? ⟨w.heap.size, 4, none⟩ = some (.string o.who) := (by rw [hwb]; go_simp); have wb_c5 : wb.cell? ⟨w.heap.size, 5, none⟩ = some (.string o.tkey) := (by rw [hwb]; go_simp); have wb_c6 : wb.cell? ⟨w.heap.size, 6, none⟩ = some (.string o.twho) := (by rw [hwb]; go_simp); have wb_c7 : wb.cell? ⟨w.heap.size, 7, none⟩ = some (.int .i64 o.item) := (by rw [hwb]; go_simp); have wb_c8 : wb.cell? ⟨w.heap.size, 8, none⟩ = some (.int .i64 o.count) := (by rw [hwb]; go_simp); have wb_c9 : wb.cell? ⟨w.heap.size, 9, none⟩ = some (.int .i64 o.price) := (by rw [hwb]; go_simp); have wb_c10 : wb.cell? ⟨w.heap.size, 10, none⟩ = some (.bool o.buy) := (by rw [hwb]; go_simp); have wb_c11 : wb.cell? ⟨w.heap.size, 11, none⟩ = some (.int .i64 o.id) := (by rw [hwb]; go_simp); have wb_b : Below w.heap.size w wb := (by rw [hwb]; exact (by repeat (first | with_reducible exact Below.refl _ _ | with_reducible assumption | with_reducible refine Below.drew ?_ | with_reducible refine below_drawn ?_ | with_reducible refine Below.alloc ?_ (by first | omega | (simp; done) | (simp; omega) | (simp at *; omega)) _ | with_reducible refine Below.setCell ?_ (by first | omega | (simp; done) | (simp; omega) | (simp at *; omega)) _ | with_reducible refine Below.trans ?_ (Below.mono (by assumption) (by first | omega | (simp; done) | (simp; omega) | (simp at *; omega)))))); clear hwb)
    refine (Hr.out _).mono ?_
    (rintro e w2 ⟨rfl, w2_h⟩; obtain ⟨w2_hc, w2_hf⟩ := bcell w2_h; have w2_z := w2_h.size; have w2_b := wb_b.trans (w2_h.mono (by have := wb_b.size; omega)); have w2_le := w2_b.size; have w2_s0 : w.heap.size < w2.heap.size := (by omega); clear w2_h)
    go_wp2_with fail
    refine (He.out _).mono ?_
    rintro e w3 ⟨rfl, hb3⟩
    have w3_b : Below w.heap.size w w3 := (show Below w.heap.size w (w2.alloc _) from (by repeat (first | with_reducible exact Below.refl _ _ | with_reducible assumption | with_reducible refine Below.drew ?_ | with_reducible refine below_drawn ?_ | with_reducible refine Below.alloc ?_ (by first | omega | (simp; done) | (simp; omega) | (simp at *; omega)) _ | with_reducible refine Below.setCell ?_ (by first | omega | (simp; done) | (simp; omega) | (simp at *; omega)) _ | with_reducible refine Below.trans ?_ (Below.mono (by assumption) (by first | omega | (simp; done) | (simp; omega) | (simp at *; omega)))))).trans (hb3.mono (by simp; omega))
    obtain ⟨h3c, h3f⟩ := bcell hb3
    have z3 := hb3.size
    simp only [World.alloc, Array.size_push] at z3
    have y1 : w.heap.size < w2.heap.size + 1 := by omega
    have y2 : w.heap.size < w3.heap.size := by omega
    have y3 : w2.heap.size < w3.heap.size := by omega
    clear hb3
    go_wp2_with fail
    refine (Hm.out _).mono ?_
    rintro e w4 ⟨rfl, hb4⟩
    have w4_b : Below w.heap.size w w4 := w3_b.trans (hb4.mono (by omega))
    obtain ⟨h4c, h4f⟩ := bcell hb4
    clear hb4
    go_wp2_with fail
    refine (Hx.out _).mono ?_
    rintro e w5 ⟨rfl, hb5⟩
    have w5_b : Below w.heap.size w w5 := w4_b.trans (hb5.mono w4_b.size)
    clear hb5
    go_wp2_with fail
    refine (known_any _).mono ?_
    rintro e w6 ⟨rfl, hb6⟩
    have w6_b : Below w.heap.size w w6 := w5_b.trans (hb6.mono w5_b.size)
    clear hb6
    go_wp2_with fail
    go_ret
    exact ⟨rfl, w6_b⟩
  · have He := fun w => encode_no (xO o 6) w (hno.out 6)
    have Hx := fun w => may_any (xO o 6) w _ (hno.out 6)
    simp only [xO, e0] at He Hx
    have He := Lib.hid He
    have Hx := Lib.hid Hx
    go_enter Try.func4, Try.ntmps4
    go_wp2_with fail
    (refine calls_name fun wa hwa => ?_; have wa_s0 : w.heap.size < wa.heap.size := (by rw [hwa]; first | omega | (simp; done) | (simp; omega)); have wa_c0 : wa.cell? ⟨w.heap.size, 0, none⟩ = some (.int .i64 o.kind) := (by rw [hwa]; go_simp); have wa_c1 : wa.cell? ⟨w.heap.size, 1, none⟩ = some (.int .i64 o.client) := (by rw [hwa]; go_simp); have wa_c2 : wa.cell? ⟨w.heap.size, 2, none⟩ = some (.int .i64 o.seq) := (by rw [hwa]; go_simp); have wa_c3 : wa.cell? ⟨w.heap.size, 3, none⟩ = some (.string o.key) := (by rw [hwa]; go_simp); have wa_c4 : wa.cell? ⟨w.heap.size, 4, none⟩ = some (.string o.who) := (by rw [hwa]; go_simp); have wa_c5 : wa.cell? ⟨w.heap.size, 5, none⟩ = some (.string o.tkey) := (by rw [hwa]; go_simp); have wa_c6 : wa.cell? ⟨w.heap.size, 6, none⟩ = some (.string o.twho) := (by rw [hwa]; go_simp); have wa_c7 : wa.cell? ⟨w.heap.size, 7, none⟩ = some (.int .i64 o.item) := (by rw [hwa]; go_simp); have wa_c8 : wa.cell? ⟨w.heap.size, 8, none⟩ = some (.int .i64 o.count) := (by rw [hwa]; go_simp); have wa_c9 : wa.cell? ⟨w.heap.size, 9, none⟩ = some (.int .i64 o.price) := (by rw [hwa]; go_simp); have wa_c10 : wa.cell? ⟨w.heap.size, 10, none⟩ = some (.bool o.buy) := (by rw [hwa]; go_simp); have wa_c11 : wa.cell? ⟨w.heap.size, 11, none⟩ = some (.int .i64 o.id) := (by rw [hwa]; go_simp); have wa_b : Below w.heap.size w wa := (by rw [hwa]; exact (by repeat (first | with_reducible exact Below.refl _ _ | with_reducible assumption | with_reducible refine Below.drew ?_ | with_reducible refine below_drawn ?_ | with_reducible refine Below.alloc ?_ (by first | omega | (simp; done) | (simp; omega) | (simp at *; omega)) _ | with_reducible refine Below.setCell ?_ (by first | omega | (simp; done) | (simp; omega) | (simp at *; omega)) _ | with_reducible refine Below.trans ?_ (Below.mono (by assumption) (by first | omega | (simp; done) | (simp; omega) | (simp at *; omega)))))); clear hwa)
    refine (Ha.out _).mono ?_
    (rintro e w1 ⟨rfl, w1_h⟩; obtain ⟨w1_hc, w1_hf⟩ := bcell w1_h; have w1_z := w1_h.size; have w1_b := wa_b.trans (w1_h.mono (by have := wa_b.size; omega)); have w1_le := w1_b.size; have w1_s0 : w.heap.size < w1.heap.size := (by omega); clear w1_h)
    go_wp2_with fail
    (refine calls_name fun wb hwb => ?_; have wb_s0 : w.heap.size < wb.heap.size := (by rw [hwb]; first | omega | (simp; done) | (simp; omega)); have wb_c0 : wb.cell? ⟨w.heap.size, 0, none⟩ = some (.int .i64 o.kind) := (by rw [hwb]; go_simp); have wb_c1 : wb.cell? ⟨w.heap.size, 1, none⟩ = some (.int .i64 o.client) := (by rw [hwb]; go_simp); have wb_c2 : wb.cell? ⟨w.heap.size, 2, none⟩ = some (.int .i64 o.seq) := (by rw [hwb]; go_simp); have wb_c3 : wb.cell? ⟨w.heap.size, 3, none⟩ = some (.string o.key) := (by rw [hwb]; go_simp); have wb_c4 : wb.cell? ⟨w.heap.size, 4, none⟩ = some (.string o.who) := (by rw [hwb]; go_simp); have wb_c5 : wb.cell? ⟨w.heap.size, 5, none⟩ = some (.string o.tkey) := (by rw [hwb]; go_simp); have wb_c6 : wb.cell? ⟨w.heap.size, 6, none⟩ = some (.string o.twho) := (by rw [hwb]; go_simp); have wb_c7 : wb.cell? ⟨w.heap.size, 7, none⟩ = some (.int .i64 o.item) := (by rw [hwb]; go_simp); have wb_c8 : wb.cell? ⟨w.heap.size, 8, none⟩ = some (.int .i64 o.count) := (by rw [hwb]; go_simp); have wb_c9 : wb.cell? ⟨w.heap.size, 9, none⟩ = some (.int .i64 o.price) := (by rw [hwb]; go_simp); have wb_c10 : wb.cell? ⟨w.heap.size, 10, none⟩ = some (.bool o.buy) := (by rw [hwb]; go_simp); have wb_c11 : wb.cell? ⟨w.heap.size, 11, none⟩ = some (.int .i64 o.id) := (by rw [hwb]; go_simp); have wb_b : Below w.heap.size w wb := (by rw [hwb]; exact (by repeat (first | with_reducible exact Below.refl _ _ | with_reducible assumption | with_reducible refine Below.drew ?_ | with_reducible refine below_drawn ?_ | with_reducible refine Below.alloc ?_ (by first | omega | (simp; done) | (simp; omega) | (simp at *; omega)) _ | with_reducible refine Below.setCell ?_ (by first | omega | (simp; done) | (simp; omega) | (simp at *; omega)) _ | with_reducible refine Below.trans ?_ (Below.mono (by assumption) (by first | omega | (simp; done) | (simp; omega) | (simp at *; omega)))))); clear hwb)
    refine (Hr.out _).mono ?_
    (rintro e w2 ⟨rfl, w2_h⟩; obtain ⟨w2_hc, w2_hf⟩ := bcell w2_h; have w2_z := w2_h.size; have w2_b := wb_b.trans (w2_h.mono (by have := wb_b.size; omega)); have w2_le := w2_b.size; have w2_s0 : w.heap.size < w2.heap.size := (by omega); clear w2_h)
    go_wp2_with fail
    refine (He.out _).mono ?_
    rintro e w3 ⟨rfl, hb3⟩
    have w3_b : Below w.heap.size w w3 := (show Below w.heap.size w (w2.alloc _) from (by repeat (first | with_reducible exact Below.refl _ _ | with_reducible assumption | with_reducible refine Below.drew ?_ | with_reducible refine below_drawn ?_ | with_reducible refine Below.alloc ?_ (by first | omega | (simp; done) | (simp; omega) | (simp at *; omega)) _ | with_reducible refine Below.setCell ?_ (by first | omega | (simp; done) | (simp; omega) | (simp at *; omega)) _ | with_reducible refine Below.trans ?_ (Below.mono (by assumption) (by first | omega | (simp; done) | (simp; omega) | (simp at *; omega)))))).trans (hb3.mono (by simp; omega))
    obtain ⟨h3c, h3f⟩ := bcell hb3
    have z3 := hb3.size
    simp only [World.alloc, Array.size_push] at z3
    have y1 : w.heap.size < w2.heap.size + 1 := by omega
    have y2 : w.heap.size < w3.heap.size := by omega
    have y3 : w2.heap.size < w3.heap.size := by omega
    clear hb3
    go_wp2_with fail
    refine (Hm.out _).mono ?_
    rintro e w4 ⟨rfl, hb4⟩
    have w4_b : Below w.heap.size w w4 := w3_b.trans (hb4.mono (by omega))
    obtain ⟨h4c, h4f⟩ := bcell hb4
    clear hb4
    go_wp2_with fail
    refine (Hx.out _).mono ?_
    rintro e w5 ⟨rfl, hb5⟩
    have w5_b : Below w.heap.size w w5 := w4_b.trans (hb5.mono w4_b.size)
    clear hb5
    go_wp2_with fail
    refine (known_any _).mono ?_
    rintro e w6 ⟨rfl, hb6⟩
    have w6_b : Below w.heap.size w w6 := w5_b.trans (hb6.mono w5_b.size)
    clear hb6
    go_wp2_with fail
    go_ret
    exact ⟨rfl, w6_b⟩
  · have He := fun w => encode_no (xO o 7) w (hno.out 7)
    have Hx := fun w => may_any (xO o 7) w _ (hno.out 7)
    simp only [xO, e0] at He Hx
    have He := Lib.hid He
    have Hx := Lib.hid Hx
    go_enter Try.func4, Try.ntmps4
    go_wp2_with fail
    (refine calls_name fun wa hwa => ?_; have wa_s0 : w.heap.size < wa.heap.size := (by rw [hwa]; first | omega | (simp; done) | (simp; omega)); have wa_c0 : wa.cell? ⟨w.heap.size, 0, none⟩ = some (.int .i64 o.kind) := (by rw [hwa]; go_simp); have wa_c1 : wa.cell? ⟨w.heap.size, 1, none⟩ = some (.int .i64 o.client) := (by rw [hwa]; go_simp); have wa_c2 : wa.cell? ⟨w.heap.size, 2, none⟩ = some (.int .i64 o.seq) := (by rw [hwa]; go_simp); have wa_c3 : wa.cell? ⟨w.heap.size, 3, none⟩ = some (.string o.key) := (by rw [hwa]; go_simp); have wa_c4 : wa.cell? ⟨w.heap.size, 4, none⟩ = some (.string o.who) := (by rw [hwa]; go_simp); have wa_c5 : wa.cell? ⟨w.heap.size, 5, none⟩ = some (.string o.tkey) := (by rw [hwa]; go_simp); have wa_c6 : wa.cell? ⟨w.heap.size, 6, none⟩ = some (.string o.twho) := (by rw [hwa]; go_simp); have wa_c7 : wa.cell? ⟨w.heap.size, 7, none⟩ = some (.int .i64 o.item) := (by rw [hwa]; go_simp); have wa_c8 : wa.cell? ⟨w.heap.size, 8, none⟩ = some (.int .i64 o.count) := (by rw [hwa]; go_simp); have wa_c9 : wa.cell? ⟨w.heap.size, 9, none⟩ = some (.int .i64 o.price) := (by rw [hwa]; go_simp); have wa_c10 : wa.cell? ⟨w.heap.size, 10, none⟩ = some (.bool o.buy) := (by rw [hwa]; go_simp); have wa_c11 : wa.cell? ⟨w.heap.size, 11, none⟩ = some (.int .i64 o.id) := (by rw [hwa]; go_simp); have wa_b : Below w.heap.size w wa := (by rw [hwa]; exact (by repeat (first | with_reducible exact Below.refl _ _ | with_reducible assumption | with_reducible refine Below.drew ?_ | with_reducible refine below_drawn ?_ | with_reducible refine Below.alloc ?_ (by first | omega | (simp; done) | (simp; omega) | (simp at *; omega)) _ | with_reducible refine Below.setCell ?_ (by first | omega | (simp; done) | (simp; omega) | (simp at *; omega)) _ | with_reducible refine Below.trans ?_ (Below.mono (by assumption) (by first | omega | (simp; done) | (simp; omega) | (simp at *; omega)))))); clear hwa)
    refine (Ha.out _).mono ?_
    (rintro e w1 ⟨rfl, w1_h⟩; obtain ⟨w1_hc, w1_hf⟩ := bcell w1_h; have w1_z := w1_h.size; have w1_b := wa_b.trans (w1_h.mono (by have := wa_b.size; omega)); have w1_le := w1_b.size; have w1_s0 : w.heap.size < w1.heap.size := (by omega); clear w1_h)
    go_wp2_with fail
    (refine calls_name fun wb hwb => ?_; have wb_s0 : w.heap.size < wb.heap.size := (by rw [hwb]; first | omega | (simp; done) | (simp; omega)); have wb_c0 : wb.cell? ⟨w.heap.size, 0, none⟩ = some (.int .i64 o.kind) := (by rw [hwb]; go_simp); have wb_c1 : wb.cell? ⟨w.heap.size, 1, none⟩ = some (.int .i64 o.client) := (by rw [hwb]; go_simp); have wb_c2 : wb.cell? ⟨w.heap.size, 2, none⟩ = some (.int .i64 o.seq) := (by rw [hwb]; go_simp); have wb_c3 : wb.cell? ⟨w.heap.size, 3, none⟩ = some (.string o.key) := (by rw [hwb]; go_simp); have wb_c4 : wb.cell? ⟨w.heap.size, 4, none⟩ = some (.string o.who) := (by rw [hwb]; go_simp); have wb_c5 : wb.cell? ⟨w.heap.size, 5, none⟩ = some (.string o.tkey) := (by rw [hwb]; go_simp); have wb_c6 : wb.cell? ⟨w.heap.size, 6, none⟩ = some (.string o.twho) := (by rw [hwb]; go_simp); have wb_c7 : wb.cell? ⟨w.heap.size, 7, none⟩ = some (.int .i64 o.item) := (by rw [hwb]; go_simp); have wb_c8 : wb.cell? ⟨w.heap.size, 8, none⟩ = some (.int .i64 o.count) := (by rw [hwb]; go_simp); have wb_c9 : wb.cell? ⟨w.heap.size, 9, none⟩ = some (.int .i64 o.price) := (by rw [hwb]; go_simp); have wb_c10 : wb.cell? ⟨w.heap.size, 10, none⟩ = some (.bool o.buy) := (by rw [hwb]; go_simp); have wb_c11 : wb.cell? ⟨w.heap.size, 11, none⟩ = some (.int .i64 o.id) := (by rw [hwb]; go_simp); have wb_b : Below w.heap.size w wb := (by rw [hwb]; exact (by repeat (first | with_reducible exact Below.refl _ _ | with_reducible assumption | with_reducible refine Below.drew ?_ | with_reducible refine below_drawn ?_ | with_reducible refine Below.alloc ?_ (by first | omega | (simp; done) | (simp; omega) | (simp at *; omega)) _ | with_reducible refine Below.setCell ?_ (by first | omega | (simp; done) | (simp; omega) | (simp at *; omega)) _ | with_reducible refine Below.trans ?_ (Below.mono (by assumption) (by first | omega | (simp; done) | (simp; omega) | (simp at *; omega)))))); clear hwb)
    refine (Hr.out _).mono ?_
    (rintro e w2 ⟨rfl, w2_h⟩; obtain ⟨w2_hc, w2_hf⟩ := bcell w2_h; have w2_z := w2_h.size; have w2_b := wb_b.trans (w2_h.mono (by have := wb_b.size; omega)); have w2_le := w2_b.size; have w2_s0 : w.heap.size < w2.heap.size := (by omega); clear w2_h)
    go_wp2_with fail
    refine (He.out _).mono ?_
    rintro e w3 ⟨rfl, hb3⟩
    have w3_b : Below w.heap.size w w3 := (show Below w.heap.size w (w2.alloc _) from (by repeat (first | with_reducible exact Below.refl _ _ | with_reducible assumption | with_reducible refine Below.drew ?_ | with_reducible refine below_drawn ?_ | with_reducible refine Below.alloc ?_ (by first | omega | (simp; done) | (simp; omega) | (simp at *; omega)) _ | with_reducible refine Below.setCell ?_ (by first | omega | (simp; done) | (simp; omega) | (simp at *; omega)) _ | with_reducible refine Below.trans ?_ (Below.mono (by assumption) (by first | omega | (simp; done) | (simp; omega) | (simp at *; omega)))))).trans (hb3.mono (by simp; omega))
    obtain ⟨h3c, h3f⟩ := bcell hb3
    have z3 := hb3.size
    simp only [World.alloc, Array.size_push] at z3
    have y1 : w.heap.size < w2.heap.size + 1 := by omega
    have y2 : w.heap.size < w3.heap.size := by omega
    have y3 : w2.heap.size < w3.heap.size := by omega
    clear hb3
    go_wp2_with fail
    refine (Hm.out _).mono ?_
    rintro e w4 ⟨rfl, hb4⟩
    have w4_b : Below w.heap.size w w4 := w3_b.trans (hb4.mono (by omega))
    obtain ⟨h4c, h4f⟩ := bcell hb4
    clear hb4
    go_wp2_with fail
    refine (Hx.out _).mono ?_
    rintro e w5 ⟨rfl, hb5⟩
    have w5_b : Below w.heap.size w w5 := w4_b.trans (hb5.mono w4_b.size)
    clear hb5
    go_wp2_with fail
    refine (known_any _).mono ?_
    rintro e w6 ⟨rfl, hb6⟩
    have w6_b : Below w.heap.size w w6 := w5_b.trans (hb6.mono w5_b.size)
    clear hb6
    go_wp2_with fail
    go_ret
    exact ⟨rfl, w6_b⟩
namespace OpKindsLift
open Go.ChangeShapes Go.WideShapes Go.ChangeAt Go.RowKit Go.Joins Go.Deep
open Go.ChangeMaps (open_string shut_string)

theorem own : ownKnob Try.prog.godebug = none := by kernel_rfl
theorem laidOut : laidOutB Try.prog = true := by kernel_rfl

set_option maxHeartbeats 1000000 in
set_option maxRecDepth 100000 in
theorem lifted (os : Os) (started : os.Started) (H : Type) (enc : TypeId × Value → H) :
    ReturnsInHanded {} Try.checked os 4 .any (Rows.opKindsSpec.pre6 enc Try.prog Try.f4 Rows.opKindsRow.domain false) (Rows.opKindsSpec.post enc Try.prog Try.f4 false true false false) := by
  refine returnsInHanded_of_change (C := Try.checked) own started (by kernel_rfl) Try.func4
    (ChangeSpec.witness6 (enc := enc) (C := Try.checked) false ⟨#[], #[.agg #[.int .i64 0, .int .i64 0, .int .i64 0, .string ⟨#[]⟩, .string ⟨#[]⟩, .string ⟨#[]⟩, .string ⟨#[]⟩, .int .i64 0, .int .i64 0, .int .i64 0, .bool false, .int .i64 0], .int .i64 0], []⟩ 8 (by kernel_rfl) (by kernel_rfl) (by kernel_rfl) (by kernel_rfl)) ?_
  intro W base args ds gs before hval0 hW hcnd _
  have hval : ∀ (j : Nat) t v, Try.f4.params[j]? = some t → args[j]? = some v → Value.okWide Try.prog W .any base t v := hval0
  have hW' := hW
  obtain ⟨p, q, hA0, hV, rfl, hfz, hnd⟩ := hW
  have hA : DataW.TrodAll enc Try.prog W 0 (fun _ => true) true Try.f4.params.toList args.toList ds p := hA0
  rw [Try.params4] at hA hval
  obtain ⟨v0, vs0, d0, ds0, p0, q0, hargs, rfl, rfl, h0, r0⟩ := trodAll_cons hA
  obtain ⟨v1, vs1, d1, ds1, p1, q1, rfl, rfl, rfl, h1, r1⟩ := trodAll_cons r0
  obtain ⟨rfl, rfl, rfl⟩ := trodAll_nil r1
  obtain rfl : args = #[v0, v1] := by cases args; simp_all
  obtain ⟨rfl, rfl⟩ := trodVars_none hV
  have k0 := h0
  have lt0 : ∀ x ∈ p0, x.block < W.heap.size := by obtain ⟨m, hm⟩ := k0; exact DataW.trod_lt m _ _ _ hm
  have k1 := h1
  have lt1 : ∀ x ∈ p1, x.block < W.heap.size := by obtain ⟨m, hm⟩ := k1; exact DataW.trod_lt m _ _ _ hm
  have post : ∀ e W', e = Ending.returned (.bool true) → Below W.heap.size W W' → ∃ v, e = .returned v ∧ Rows.opKindsSpec.post enc Try.prog Try.f4 false true false false W #[v0, v1] v W' := by
    intro e W' he bel
    subst he
    exact ⟨_, rfl, _, _, _, [], _, [], hW', trodAll_mk1 (shut_bool Try.underlying4 _), (trodAll_cons_mk (Below.trod laidOut (by kernel_rfl) (of_decide_eq_true (by kernel_rfl)) k0 bel lt0) (trodAll_cons_mk (Below.trod laidOut (by kernel_rfl) (of_decide_eq_true (by kernel_rfl)) k1 bel lt1) trodAll_mk0)), rfl, bel.frame _, fun h => by cases h⟩
  clear hW' hcnd hfz hnd hA0 hA hval0
  obtain ⟨o0, rfl⟩ := open_op (hval 0 25 v0 rfl rfl) h0
  obtain ⟨n, rfl, -, -, -⟩ := open_int Try.underlying3 (hval 1 3 v1 rfl rfl) h1
  exact (kinds_any o0 n W).mono fun e W' ⟨he, bel⟩ => post e W' he bel

theorem over : Rows.opKindsRow.holds Try.pinned (OpenSpec.ofChange Rows.opKindsSpec) :=
  OpenClaim.holds_of_wide 4 Try.f4 rfl rfl rfl rfl rfl rfl rfl ⟨rfl, rfl, rfl, rfl, rfl⟩ rfl rfl rfl rfl rfl (by kernel_rfl) Try.func4 (by kernel_rfl)
    (of_decide_eq_true (by kernel_rfl)) (by unfold Func.isWrapper; first | (rw [if_pos (by decide +kernel)]; kernel_rfl) | (rw [if_neg (by decide +kernel)]; exact ⟨rfl, rfl⟩))
    (fun os started H enc _ => lifted os started H enc)
end OpKindsLift

/-- The statement. -/
theorem opKinds_holds : Rows.OpKindsSaid := OpKindsLift.over
#print axioms opKinds_holds
end Go.Proofs.Ytglidhbkglfkeaa
