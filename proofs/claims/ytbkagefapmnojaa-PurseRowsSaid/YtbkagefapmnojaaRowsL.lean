/- The law PurseRows: in whatever portions purses are added, it is the same. -/
import Derived.Test.YtbkagefapmnojaaW2
import Derived.Test.YtbkagefapmnojaaFlat
import Derived.Test.YtbkagefapmnojaaOpenIt
import Derived.Test.YtbkagefapmnojaaRows
import Derived.ProofKit
import Derived.OpenShut
import Derived.ShutString
import Derived.Lib.SmallJoins
import Derived.Deep.Slices
namespace Go.Proofs.Ytbkagefapmnojaa
open Go.RowKit

theorem ItAt.cells {w : World} {ao : Option Addr} {l : List It} (h : ItAt w ao l) : ∀ ad, ao = some ad → ∀ j u, (flatI l)[j]? = some u → w.cell? (ad.add j) = some u := by
  intro ad had j u hu
  by_cases hp : 0 < l.length
  · obtain ⟨b, off, e, -, hr⟩ := h hp
    rw [had] at e
    obtain rfl : ad = ⟨b, off, none⟩ := by simpa using e
    exact flatI_cells hr j u hu
  · have : l = [] := by cases l with
      | nil => rfl
      | cons x r => simp at hp
    subst this
    simp [flatI] at hu
theorem owned_at {w : World} {base n : Nat} {v : Value} {a b : List It} (h : w.ownsRow base 23 4 v n (flatI a ++ flatI b)) (hn : n = (a ++ b).length) : ∃ ao cap, v = .slice ao (a ++ b).length cap ∧ ItAt w ao (a ++ b) := by
  rw [flatI_append] at h
  obtain ⟨ao, cap, hv, hi, -⟩ := owns_rowI h hn
  exact ⟨ao, cap, by rw [hv, hn], hi⟩
set_option maxHeartbeats 1000000 in
theorem rows_many (ao bo : Option Addr) (ca cb : Nat) (a b : List It) (w : World) (hma : a.length * 32 ≤ 140737488351232) (hmb : b.length * 32 ≤ 140737488351232) (h : (100 : Int) < a.length + b.length) : Calls Try.prog 8 #[.slice ao a.length ca, .slice bo b.length cb] w fun e w' => e = .returned (.bool true) ∧ Below w.heap.size w w' := by
  go_enter Try.func8, Try.ntmps8
  go_wp2_with fail
  go_ret; exact ⟨rfl, (by repeat (first | with_reducible exact Below.refl _ _ | with_reducible assumption | with_reducible refine Below.drew ?_ | with_reducible refine below_drawn ?_ | with_reducible refine Below.alloc ?_ (by first | omega | (simp; done) | (simp; omega) | (simp at *; omega)) _ | with_reducible refine Below.setCell ?_ (by first | omega | (simp; done) | (simp; omega) | (simp at *; omega)) _ | with_reducible refine Below.trans ?_ (Below.mono (by assumption) (by first | omega | (simp; done) | (simp; omega) | (simp at *; omega)))))⟩
set_option maxHeartbeats 8000000 in
theorem rows_PF (ao bo : Option Addr) (ca cb : Nat) (a b : List It) (w : World) (ha0 : ao = none → a.length = 0 ∧ ca = 0) (hb0 : bo = none → b.length = 0 ∧ cb = 0) (hra : ItAt w ao a) (hrb : ItAt w bo b) (hma : a.length * 32 ≤ 140737488351232) (hmb : b.length * 32 ≤ 140737488351232) (h : ¬ (100 : Int) < a.length + b.length)
  (hp : (addL a).isSome = false) (hz : (outI (addL (a ++ b))) = zeroI) (hrr : (addL (a ++ b)).isSome = false) : Calls Try.prog 8 #[.slice ao a.length ca, .slice bo b.length cb] w fun e w' => e = .returned (.bool true) ∧ Below w.heap.size w w' := by
  have heq := eql_items zeroI zeroI
  simp only [zeroI] at heq
  have Hz := Lib.hid hz
  have Hra := Lib.hid hra
  have Hrb := Lib.hid hrb
  have Ha := Lib.hid ha0
  have Hb := Lib.hid hb0
  clear hz hra hrb ha0 hb0
  obtain ⟨i0, hi, hz0, hz1, hz2⟩ := info_parts itInfo
  go_enter Try.func8, Try.ntmps8
  go_wp2_with fail
  refine (purse_add ao ca a w (by omega) Hra.out).mono ?_
  rintro e w1 ⟨rfl, w1_b⟩
  have w1_le := w1_b.size
  go_wp2_with fail
  (refine calls_name fun wb hwb => ?_; have wb_s0 : w1.heap.size < wb.heap.size := (by rw [hwb]; first | omega | (simp; done) | (simp; omega)); have wb_c0 : wb.cell? ⟨w1.heap.size, 0, none⟩ = some (.int .i64 (outI (addL a)).a) := (by rw [hwb]; go_simp); have wb_c1 : wb.cell? ⟨w1.heap.size, 1, none⟩ = some (.int .i64 (outI (addL a)).b) := (by rw [hwb]; go_simp); have wb_c2 : wb.cell? ⟨w1.heap.size, 2, none⟩ = some (.int .i64 (outI (addL a)).c) := (by rw [hwb]; go_simp); have wb_c3 : wb.cell? ⟨w1.heap.size, 3, none⟩ = some (.int .i64 (outI (addL a)).d) := (by rw [hwb]; go_simp); have wb_b : Below w.heap.size w wb := (by rw [hwb]; exact (by repeat (first | with_reducible exact Below.refl _ _ | with_reducible assumption | with_reducible refine Below.drew ?_ | with_reducible refine below_drawn ?_ | with_reducible refine Below.alloc ?_ (by first | omega | (simp; done) | (simp; omega) | (simp at *; omega)) _ | with_reducible refine Below.setCell ?_ (by first | omega | (simp; done) | (simp; omega) | (simp at *; omega)) _ | with_reducible refine Below.trans ?_ (Below.mono (by assumption) (by first | omega | (simp; done) | (simp; omega) | (simp at *; omega)))))); clear hwb)
  refine (purse_add bo cb b wb (by omega) (Hrb.out.below wb_b)).mono ?_
  (rintro e w2 ⟨rfl, w2_h⟩; obtain ⟨w2_hc, w2_hf⟩ := bcell w2_h; have w2_z := w2_h.size; have w2_b := wb_b.trans (w2_h.mono (by have := wb_b.size; omega)); have w2_le := w2_b.size; have w2_s0 : w1.heap.size < w2.heap.size := (by omega); clear w2_h)
  have hx0 : w2.cell? ⟨w1.heap.size, 0, none⟩ = some (.int .i64 (outI (addL a)).a) := by go_simp
  have hx1 : w2.cell? ⟨w1.heap.size, 1, none⟩ = some (.int .i64 (outI (addL a)).b) := by go_simp
  have hx2 : w2.cell? ⟨w1.heap.size, 2, none⟩ = some (.int .i64 (outI (addL a)).c) := by go_simp
  have hx3 : w2.cell? ⟨w1.heap.size, 3, none⟩ = some (.int .i64 (outI (addL a)).d) := by go_simp
  clear w2_hc w2_hf wb_c0 wb_c1 wb_c2 wb_c3
  have hbA : Below w.heap.size w ((w2.alloc (.cells #[.int .i64 (outI (addL b)).a, .int .i64 (outI (addL b)).b, .int .i64 (outI (addL b)).c, .int .i64 (outI (addL b)).d] 23)).alloc (.cells #[] 23)) := (w2_b.alloc w2_le _).alloc (by simp; omega) _
  have HbA := Lib.hid hbA
  clear hbA
  go_wp2_with (at_builtin; go_must (refine wpList_append_any _ rfl (.tmp 30) (.tmp 31) 31 rfl (w2.heap.size + 1) 23 i0 (.agg #[.int .i64 0, .int .i64 0, .int .i64 0, .int .i64 0]) 4 32 Try.underlying31 hi hz0 hz1 hz2 rfl (by decide) _ 0 [] rfl (owns_emptyAt _ (w2.heap.size + 1) (by simp) (w2.heap.size + 1) (Nat.le_refl _) 23 4) ao a.length ca (flatI a) rfl Ha.out (flatI_length a) (Hra.out.below HbA.out).cells (flatI_one a) (by unfold maxLen; omega) (by omega) (by simp) ?_))
  intro v4 w4 hown4 hgrow4
  have hb4 : Below (w2.heap.size + 1) (w2.alloc (.cells #[.int .i64 (outI (addL b)).a, .int .i64 (outI (addL b)).b, .int .i64 (outI (addL b)).c, .int .i64 (outI (addL b)).d] 23)) w4 := below_grown ((Below.refl _ _).alloc (by simp) _) (by simp) hgrow4 (fun k hk => by simp [Value.ownBlock] at hk; omega)
  have w4_b : Below w.heap.size w w4 := (w2_b.alloc w2_le _).trans (hb4.mono (by omega))
  have hown4' : w4.ownsRow (w2.heap.size + 1) 23 4 v4 a.length (flatI a) := by simpa using hown4
  have Hown4 := Lib.hid hown4'
  have hrb4 := Hrb.out.below w4_b
  have Hrb4 := Lib.hid hrb4
  have hsz4 : w2.heap.size + 1 ≤ w4.heap.size := by have := hb4.size; simpa using this
  have Hb4 := Lib.hid hb4
  clear hown4 hown4' hgrow4 hrb4 hb4
  go_wp2_with (at_builtin; go_must (refine wpList_append_any _ rfl (.tmp 32) (.tmp 33) 31 rfl (w2.heap.size + 1) 23 i0 (.agg #[.int .i64 0, .int .i64 0, .int .i64 0, .int .i64 0]) 4 32 Try.underlying31 hi hz0 hz1 hz2 rfl (by decide) v4 a.length (flatI a) rfl Hown4.out bo b.length cb (flatI b) rfl Hb.out (flatI_length b) Hrb4.out.cells (flatI_one b) (by unfold maxLen; omega) (by omega) hsz4 ?_))
  intro v5 w5 hown5 hgrow5
  have hb5 : Below (w2.heap.size + 1) (w2.alloc (.cells #[.int .i64 (outI (addL b)).a, .int .i64 (outI (addL b)).b, .int .i64 (outI (addL b)).c, .int .i64 (outI (addL b)).d] 23)) w5 := below_grown Hb4.out hsz4 hgrow5 (fun k hk => own_block Hown4.out hk)
  obtain ⟨co, cc, hv5, hi5⟩ := owned_at (a := a) (b := b) hown5 (by simp)
  have Hi5 := Lib.hid hi5
  obtain ⟨h5c, h5f⟩ := bcellB hb5
  have w5_b : Below w.heap.size w w5 := (w2_b.alloc w2_le _).trans (hb5.mono (by omega))
  have w5_le := w5_b.size
  have hsz5 : w2.heap.size + 1 ≤ w5.heap.size := by have := hb5.size; simpa using this
  clear hown5 hgrow5 hi5 hb5
  have lt1 : w1.heap.size < w2.heap.size + 1 := by omega
  have lt2 : w1.heap.size < w5.heap.size := by omega
  have lt3 : w2.heap.size < w5.heap.size := by omega
  have px0 : w5.cell? ⟨w1.heap.size, 0, none⟩ = some (.int .i64 (outI (addL a)).a) := by rw [h5c _ _ lt1]; go_simp
  have px1 : w5.cell? ⟨w1.heap.size, 1, none⟩ = some (.int .i64 (outI (addL a)).b) := by rw [h5c _ _ lt1]; go_simp
  have px2 : w5.cell? ⟨w1.heap.size, 2, none⟩ = some (.int .i64 (outI (addL a)).c) := by rw [h5c _ _ lt1]; go_simp
  have px3 : w5.cell? ⟨w1.heap.size, 3, none⟩ = some (.int .i64 (outI (addL a)).d) := by rw [h5c _ _ lt1]; go_simp
  have py0 : w5.cell? ⟨w2.heap.size, 0, none⟩ = some (.int .i64 (outI (addL b)).a) := by rw [h5c _ _ (by omega)]; go_simp
  have py1 : w5.cell? ⟨w2.heap.size, 1, none⟩ = some (.int .i64 (outI (addL b)).b) := by rw [h5c _ _ (by omega)]; go_simp
  have py2 : w5.cell? ⟨w2.heap.size, 2, none⟩ = some (.int .i64 (outI (addL b)).c) := by rw [h5c _ _ (by omega)]; go_simp
  have py3 : w5.cell? ⟨w2.heap.size, 3, none⟩ = some (.int .i64 (outI (addL b)).d) := by rw [h5c _ _ (by omega)]; go_simp
  clear h5c h5f hx0 hx1 hx2 hx3
  have hcall : Calls Try.prog 19 #[.slice co (a.length + b.length) cc] w5 fun e w' => e = .returned (.tuple #[.agg #[.int .i64 (outI (addL (a ++ b))).a, .int .i64 (outI (addL (a ++ b))).b, .int .i64 (outI (addL (a ++ b))).c, .int .i64 (outI (addL (a ++ b))).d], .bool (addL (a ++ b)).isSome]) ∧ Below w5.heap.size w5 w' := by
    have := purse_add co cc (a ++ b) w5 (by simp; omega) Hi5.out
    rwa [List.length_append] at this
  rw [Hz.out, hrr] at hcall
  simp only [zeroI] at hcall
  have Hcall := Lib.hid hcall
  clear hcall
  rw [hv5, List.length_append]
  go_wp2_with fail

  refine Hcall.out.mono ?_
  rintro e w7 ⟨rfl, w7_h⟩
  obtain ⟨w7_hc, w7_hf⟩ := bcell w7_h
  have w7_b := w5_b.trans (w7_h.mono w5_b.size)
  have w7_le := w7_b.size
  have lt4 : w1.heap.size < w7.heap.size := Nat.lt_of_lt_of_le lt2 w7_h.size
  have lt5 : w2.heap.size < w7.heap.size := Nat.lt_of_lt_of_le lt3 w7_h.size
  clear w7_h
  go_wp2_with fail
  (refine calls_name fun wz hwz => ?_; have wz_b : Below w.heap.size w wz := (by rw [hwz]; exact (by repeat (first | with_reducible exact Below.refl _ _ | with_reducible assumption | with_reducible refine Below.drew ?_ | with_reducible refine below_drawn ?_ | with_reducible refine Below.alloc ?_ (by first | omega | (simp; done) | (simp; omega) | (simp at *; omega)) _ | with_reducible refine Below.setCell ?_ (by first | omega | (simp; done) | (simp; omega) | (simp at *; omega)) _ | with_reducible refine Below.trans ?_ (Below.mono (by assumption) (by first | omega | (simp; done) | (simp; omega) | (simp at *; omega)))))); clear hwz)
  refine (known_any _).mono ?_
  (rintro e w9 ⟨rfl, w9_h⟩; obtain ⟨w9_hc, w9_hf⟩ := bcell w9_h; have w9_z := w9_h.size; have w9_b := wz_b.trans (w9_h.mono (by have := wz_b.size; omega)); have w9_le := w9_b.size; clear w9_h)
  go_wp2_with fail
  go_ret; exact ⟨rfl, (by repeat (first | with_reducible exact Below.refl _ _ | with_reducible assumption | with_reducible refine Below.drew ?_ | with_reducible refine below_drawn ?_ | with_reducible refine Below.alloc ?_ (by first | omega | (simp; done) | (simp; omega) | (simp at *; omega)) _ | with_reducible refine Below.setCell ?_ (by first | omega | (simp; done) | (simp; omega) | (simp at *; omega)) _ | with_reducible refine Below.trans ?_ (Below.mono (by assumption) (by first | omega | (simp; done) | (simp; omega) | (simp at *; omega)))))⟩
set_option maxHeartbeats 8000000 in
theorem rows_QF (ao bo : Option Addr) (ca cb : Nat) (a b : List It) (w : World) (ha0 : ao = none → a.length = 0 ∧ ca = 0) (hb0 : bo = none → b.length = 0 ∧ cb = 0) (hra : ItAt w ao a) (hrb : ItAt w bo b) (hma : a.length * 32 ≤ 140737488351232) (hmb : b.length * 32 ≤ 140737488351232) (h : ¬ (100 : Int) < a.length + b.length)
  (hp : (addL a).isSome = true) (hq : (addL b).isSome = false) (hz : (outI (addL (a ++ b))) = zeroI) (hrr : (addL (a ++ b)).isSome = false) : Calls Try.prog 8 #[.slice ao a.length ca, .slice bo b.length cb] w fun e w' => e = .returned (.bool true) ∧ Below w.heap.size w w' := by
  have heq := eql_items zeroI zeroI
  simp only [zeroI] at heq
  have Hz := Lib.hid hz
  have Hra := Lib.hid hra
  have Hrb := Lib.hid hrb
  have Ha := Lib.hid ha0
  have Hb := Lib.hid hb0
  clear hz hra hrb ha0 hb0
  obtain ⟨i0, hi, hz0, hz1, hz2⟩ := info_parts itInfo
  go_enter Try.func8, Try.ntmps8
  go_wp2_with fail
  refine (purse_add ao ca a w (by omega) Hra.out).mono ?_
  rintro e w1 ⟨rfl, w1_b⟩
  have w1_le := w1_b.size
  go_wp2_with fail
  (refine calls_name fun wb hwb => ?_; have wb_s0 : w1.heap.size < wb.heap.size := (by rw [hwb]; first | omega | (simp; done) | (simp; omega)); have wb_c0 : wb.cell? ⟨w1.heap.size, 0, none⟩ = some (.int .i64 (outI (addL a)).a) := (by rw [hwb]; go_simp); have wb_c1 : wb.cell? ⟨w1.heap.size, 1, none⟩ = some (.int .i64 (outI (addL a)).b) := (by rw [hwb]; go_simp); have wb_c2 : wb.cell? ⟨w1.heap.size, 2, none⟩ = some (.int .i64 (outI (addL a)).c) := (by rw [hwb]; go_simp); have wb_c3 : wb.cell? ⟨w1.heap.size, 3, none⟩ = some (.int .i64 (outI (addL a)).d) := (by rw [hwb]; go_simp); have wb_b : Below w.heap.size w wb := (by rw [hwb]; exact (by repeat (first | with_reducible exact Below.refl _ _ | with_reducible assumption | with_reducible refine Below.drew ?_ | with_reducible refine below_drawn ?_ | with_reducible refine Below.alloc ?_ (by first | omega | (simp; done) | (simp; omega) | (simp at *; omega)) _ | with_reducible refine Below.setCell ?_ (by first | omega | (simp; done) | (simp; omega) | (simp at *; omega)) _ | with_reducible refine Below.trans ?_ (Below.mono (by assumption) (by first | omega | (simp; done) | (simp; omega) | (simp at *; omega)))))); clear hwb)
  refine (purse_add bo cb b wb (by omega) (Hrb.out.below wb_b)).mono ?_
  (rintro e w2 ⟨rfl, w2_h⟩; obtain ⟨w2_hc, w2_hf⟩ := bcell w2_h; have w2_z := w2_h.size; have w2_b := wb_b.trans (w2_h.mono (by have := wb_b.size; omega)); have w2_le := w2_b.size; have w2_s0 : w1.heap.size < w2.heap.size := (by omega); clear w2_h)
  have hx0 : w2.cell? ⟨w1.heap.size, 0, none⟩ = some (.int .i64 (outI (addL a)).a) := by go_simp
  have hx1 : w2.cell? ⟨w1.heap.size, 1, none⟩ = some (.int .i64 (outI (addL a)).b) := by go_simp
  have hx2 : w2.cell? ⟨w1.heap.size, 2, none⟩ = some (.int .i64 (outI (addL a)).c) := by go_simp
  have hx3 : w2.cell? ⟨w1.heap.size, 3, none⟩ = some (.int .i64 (outI (addL a)).d) := by go_simp
  clear w2_hc w2_hf wb_c0 wb_c1 wb_c2 wb_c3
  have hbA : Below w.heap.size w ((w2.alloc (.cells #[.int .i64 (outI (addL b)).a, .int .i64 (outI (addL b)).b, .int .i64 (outI (addL b)).c, .int .i64 (outI (addL b)).d] 23)).alloc (.cells #[] 23)) := (w2_b.alloc w2_le _).alloc (by simp; omega) _
  have HbA := Lib.hid hbA
  clear hbA
  go_wp2_with (at_builtin; go_must (refine wpList_append_any _ rfl (.tmp 30) (.tmp 31) 31 rfl (w2.heap.size + 1) 23 i0 (.agg #[.int .i64 0, .int .i64 0, .int .i64 0, .int .i64 0]) 4 32 Try.underlying31 hi hz0 hz1 hz2 rfl (by decide) _ 0 [] rfl (owns_emptyAt _ (w2.heap.size + 1) (by simp) (w2.heap.size + 1) (Nat.le_refl _) 23 4) ao a.length ca (flatI a) rfl Ha.out (flatI_length a) (Hra.out.below HbA.out).cells (flatI_one a) (by unfold maxLen; omega) (by omega) (by simp) ?_))
  intro v4 w4 hown4 hgrow4
  have hb4 : Below (w2.heap.size + 1) (w2.alloc (.cells #[.int .i64 (outI (addL b)).a, .int .i64 (outI (addL b)).b, .int .i64 (outI (addL b)).c, .int .i64 (outI (addL b)).d] 23)) w4 := below_grown ((Below.refl _ _).alloc (by simp) _) (by simp) hgrow4 (fun k hk => by simp [Value.ownBlock] at hk; omega)
  have w4_b : Below w.heap.size w w4 := (w2_b.alloc w2_le _).trans (hb4.mono (by omega))
  have hown4' : w4.ownsRow (w2.heap.size + 1) 23 4 v4 a.length (flatI a) := by simpa using hown4
  have Hown4 := Lib.hid hown4'
  have hrb4 := Hrb.out.below w4_b
  have Hrb4 := Lib.hid hrb4
  have hsz4 : w2.heap.size + 1 ≤ w4.heap.size := by have := hb4.size; simpa using this
  have Hb4 := Lib.hid hb4
  clear hown4 hown4' hgrow4 hrb4 hb4
  go_wp2_with (at_builtin; go_must (refine wpList_append_any _ rfl (.tmp 32) (.tmp 33) 31 rfl (w2.heap.size + 1) 23 i0 (.agg #[.int .i64 0, .int .i64 0, .int .i64 0, .int .i64 0]) 4 32 Try.underlying31 hi hz0 hz1 hz2 rfl (by decide) v4 a.length (flatI a) rfl Hown4.out bo b.length cb (flatI b) rfl Hb.out (flatI_length b) Hrb4.out.cells (flatI_one b) (by unfold maxLen; omega) (by omega) hsz4 ?_))
  intro v5 w5 hown5 hgrow5
  have hb5 : Below (w2.heap.size + 1) (w2.alloc (.cells #[.int .i64 (outI (addL b)).a, .int .i64 (outI (addL b)).b, .int .i64 (outI (addL b)).c, .int .i64 (outI (addL b)).d] 23)) w5 := below_grown Hb4.out hsz4 hgrow5 (fun k hk => own_block Hown4.out hk)
  obtain ⟨co, cc, hv5, hi5⟩ := owned_at (a := a) (b := b) hown5 (by simp)
  have Hi5 := Lib.hid hi5
  obtain ⟨h5c, h5f⟩ := bcellB hb5
  have w5_b : Below w.heap.size w w5 := (w2_b.alloc w2_le _).trans (hb5.mono (by omega))
  have w5_le := w5_b.size
  have hsz5 : w2.heap.size + 1 ≤ w5.heap.size := by have := hb5.size; simpa using this
  clear hown5 hgrow5 hi5 hb5
  have lt1 : w1.heap.size < w2.heap.size + 1 := by omega
  have lt2 : w1.heap.size < w5.heap.size := by omega
  have lt3 : w2.heap.size < w5.heap.size := by omega
  have px0 : w5.cell? ⟨w1.heap.size, 0, none⟩ = some (.int .i64 (outI (addL a)).a) := by rw [h5c _ _ lt1]; go_simp
  have px1 : w5.cell? ⟨w1.heap.size, 1, none⟩ = some (.int .i64 (outI (addL a)).b) := by rw [h5c _ _ lt1]; go_simp
  have px2 : w5.cell? ⟨w1.heap.size, 2, none⟩ = some (.int .i64 (outI (addL a)).c) := by rw [h5c _ _ lt1]; go_simp
  have px3 : w5.cell? ⟨w1.heap.size, 3, none⟩ = some (.int .i64 (outI (addL a)).d) := by rw [h5c _ _ lt1]; go_simp
  have py0 : w5.cell? ⟨w2.heap.size, 0, none⟩ = some (.int .i64 (outI (addL b)).a) := by rw [h5c _ _ (by omega)]; go_simp
  have py1 : w5.cell? ⟨w2.heap.size, 1, none⟩ = some (.int .i64 (outI (addL b)).b) := by rw [h5c _ _ (by omega)]; go_simp
  have py2 : w5.cell? ⟨w2.heap.size, 2, none⟩ = some (.int .i64 (outI (addL b)).c) := by rw [h5c _ _ (by omega)]; go_simp
  have py3 : w5.cell? ⟨w2.heap.size, 3, none⟩ = some (.int .i64 (outI (addL b)).d) := by rw [h5c _ _ (by omega)]; go_simp
  clear h5c h5f hx0 hx1 hx2 hx3
  have hcall : Calls Try.prog 19 #[.slice co (a.length + b.length) cc] w5 fun e w' => e = .returned (.tuple #[.agg #[.int .i64 (outI (addL (a ++ b))).a, .int .i64 (outI (addL (a ++ b))).b, .int .i64 (outI (addL (a ++ b))).c, .int .i64 (outI (addL (a ++ b))).d], .bool (addL (a ++ b)).isSome]) ∧ Below w5.heap.size w5 w' := by
    have := purse_add co cc (a ++ b) w5 (by simp; omega) Hi5.out
    rwa [List.length_append] at this
  rw [Hz.out, hrr] at hcall
  simp only [zeroI] at hcall
  have Hcall := Lib.hid hcall
  clear hcall
  rw [hv5, List.length_append]
  go_wp2_with fail

  refine Hcall.out.mono ?_
  rintro e w7 ⟨rfl, w7_h⟩
  obtain ⟨w7_hc, w7_hf⟩ := bcell w7_h
  have w7_b := w5_b.trans (w7_h.mono w5_b.size)
  have w7_le := w7_b.size
  have lt4 : w1.heap.size < w7.heap.size := Nat.lt_of_lt_of_le lt2 w7_h.size
  have lt5 : w2.heap.size < w7.heap.size := Nat.lt_of_lt_of_le lt3 w7_h.size
  clear w7_h
  go_wp2_with fail
  (refine calls_name fun wz hwz => ?_; have wz_b : Below w.heap.size w wz := (by rw [hwz]; exact (by repeat (first | with_reducible exact Below.refl _ _ | with_reducible assumption | with_reducible refine Below.drew ?_ | with_reducible refine below_drawn ?_ | with_reducible refine Below.alloc ?_ (by first | omega | (simp; done) | (simp; omega) | (simp at *; omega)) _ | with_reducible refine Below.setCell ?_ (by first | omega | (simp; done) | (simp; omega) | (simp at *; omega)) _ | with_reducible refine Below.trans ?_ (Below.mono (by assumption) (by first | omega | (simp; done) | (simp; omega) | (simp at *; omega)))))); clear hwz)
  refine (known_any _).mono ?_
  (rintro e w9 ⟨rfl, w9_h⟩; obtain ⟨w9_hc, w9_hf⟩ := bcell w9_h; have w9_z := w9_h.size; have w9_b := wz_b.trans (w9_h.mono (by have := wz_b.size; omega)); have w9_le := w9_b.size; clear w9_h)
  go_wp2_with fail
  go_ret; exact ⟨rfl, (by repeat (first | with_reducible exact Below.refl _ _ | with_reducible assumption | with_reducible refine Below.drew ?_ | with_reducible refine below_drawn ?_ | with_reducible refine Below.alloc ?_ (by first | omega | (simp; done) | (simp; omega) | (simp at *; omega)) _ | with_reducible refine Below.setCell ?_ (by first | omega | (simp; done) | (simp; omega) | (simp at *; omega)) _ | with_reducible refine Below.trans ?_ (Below.mono (by assumption) (by first | omega | (simp; done) | (simp; omega) | (simp at *; omega)))))⟩
set_option maxHeartbeats 8000000 in
theorem rows_BT (ao bo : Option Addr) (ca cb : Nat) (a b : List It) (w : World) (ha0 : ao = none → a.length = 0 ∧ ca = 0) (hb0 : bo = none → b.length = 0 ∧ cb = 0) (hra : ItAt w ao a) (hrb : ItAt w bo b) (hma : a.length * 32 ≤ 140737488351232) (hmb : b.length * 32 ≤ 140737488351232) (h : ¬ (100 : Int) < a.length + b.length)
  (hp : (addL a).isSome = true) (hq : (addL b).isSome = true) (hz : addL [(outI (addL a)), (outI (addL b))] = addL (a ++ b)) : Calls Try.prog 8 #[.slice ao a.length ca, .slice bo b.length cb] w fun e w' => e = .returned (.bool true) ∧ Below w.heap.size w w' := by
  have heq := eql_items (outI (addL (a ++ b))) (outI (addL (a ++ b)))
  have Hz := Lib.hid hz
  have Hra := Lib.hid hra
  have Hrb := Lib.hid hrb
  have Ha := Lib.hid ha0
  have Hb := Lib.hid hb0
  clear hz hra hrb ha0 hb0
  obtain ⟨i0, hi, hz0, hz1, hz2⟩ := info_parts itInfo
  go_enter Try.func8, Try.ntmps8
  go_wp2_with fail
  refine (purse_add ao ca a w (by omega) Hra.out).mono ?_
  rintro e w1 ⟨rfl, w1_b⟩
  have w1_le := w1_b.size
  go_wp2_with fail
  (refine calls_name fun wb hwb => ?_; have wb_s0 : w1.heap.size < wb.heap.size := (by rw [hwb]; first | omega | (simp; done) | (simp; omega)); have wb_c0 : wb.cell? ⟨w1.heap.size, 0, none⟩ = some (.int .i64 (outI (addL a)).a) := (by rw [hwb]; go_simp); have wb_c1 : wb.cell? ⟨w1.heap.size, 1, none⟩ = some (.int .i64 (outI (addL a)).b) := (by rw [hwb]; go_simp); have wb_c2 : wb.cell? ⟨w1.heap.size, 2, none⟩ = some (.int .i64 (outI (addL a)).c) := (by rw [hwb]; go_simp); have wb_c3 : wb.cell? ⟨w1.heap.size, 3, none⟩ = some (.int .i64 (outI (addL a)).d) := (by rw [hwb]; go_simp); have wb_b : Below w.heap.size w wb := (by rw [hwb]; exact (by repeat (first | with_reducible exact Below.refl _ _ | with_reducible assumption | with_reducible refine Below.drew ?_ | with_reducible refine below_drawn ?_ | with_reducible refine Below.alloc ?_ (by first | omega | (simp; done) | (simp; omega) | (simp at *; omega)) _ | with_reducible refine Below.setCell ?_ (by first | omega | (simp; done) | (simp; omega) | (simp at *; omega)) _ | with_reducible refine Below.trans ?_ (Below.mono (by assumption) (by first | omega | (simp; done) | (simp; omega) | (simp at *; omega)))))); clear hwb)
  refine (purse_add bo cb b wb (by omega) (Hrb.out.below wb_b)).mono ?_
  (rintro e w2 ⟨rfl, w2_h⟩; obtain ⟨w2_hc, w2_hf⟩ := bcell w2_h; have w2_z := w2_h.size; have w2_b := wb_b.trans (w2_h.mono (by have := wb_b.size; omega)); have w2_le := w2_b.size; have w2_s0 : w1.heap.size < w2.heap.size := (by omega); clear w2_h)
  have hx0 : w2.cell? ⟨w1.heap.size, 0, none⟩ = some (.int .i64 (outI (addL a)).a) := by go_simp
  have hx1 : w2.cell? ⟨w1.heap.size, 1, none⟩ = some (.int .i64 (outI (addL a)).b) := by go_simp
  have hx2 : w2.cell? ⟨w1.heap.size, 2, none⟩ = some (.int .i64 (outI (addL a)).c) := by go_simp
  have hx3 : w2.cell? ⟨w1.heap.size, 3, none⟩ = some (.int .i64 (outI (addL a)).d) := by go_simp
  clear w2_hc w2_hf wb_c0 wb_c1 wb_c2 wb_c3
  have hbA : Below w.heap.size w ((w2.alloc (.cells #[.int .i64 (outI (addL b)).a, .int .i64 (outI (addL b)).b, .int .i64 (outI (addL b)).c, .int .i64 (outI (addL b)).d] 23)).alloc (.cells #[] 23)) := (w2_b.alloc w2_le _).alloc (by simp; omega) _
  have HbA := Lib.hid hbA
  clear hbA
  go_wp2_with (at_builtin; go_must (refine wpList_append_any _ rfl (.tmp 30) (.tmp 31) 31 rfl (w2.heap.size + 1) 23 i0 (.agg #[.int .i64 0, .int .i64 0, .int .i64 0, .int .i64 0]) 4 32 Try.underlying31 hi hz0 hz1 hz2 rfl (by decide) _ 0 [] rfl (owns_emptyAt _ (w2.heap.size + 1) (by simp) (w2.heap.size + 1) (Nat.le_refl _) 23 4) ao a.length ca (flatI a) rfl Ha.out (flatI_length a) (Hra.out.below HbA.out).cells (flatI_one a) (by unfold maxLen; omega) (by omega) (by simp) ?_))
  intro v4 w4 hown4 hgrow4
  have hb4 : Below (w2.heap.size + 1) (w2.alloc (.cells #[.int .i64 (outI (addL b)).a, .int .i64 (outI (addL b)).b, .int .i64 (outI (addL b)).c, .int .i64 (outI (addL b)).d] 23)) w4 := below_grown ((Below.refl _ _).alloc (by simp) _) (by simp) hgrow4 (fun k hk => by simp [Value.ownBlock] at hk; omega)
  have w4_b : Below w.heap.size w w4 := (w2_b.alloc w2_le _).trans (hb4.mono (by omega))
  have hown4' : w4.ownsRow (w2.heap.size + 1) 23 4 v4 a.length (flatI a) := by simpa using hown4
  have Hown4 := Lib.hid hown4'
  have hrb4 := Hrb.out.below w4_b
  have Hrb4 := Lib.hid hrb4
  have hsz4 : w2.heap.size + 1 ≤ w4.heap.size := by have := hb4.size; simpa using this
  have Hb4 := Lib.hid hb4
  clear hown4 hown4' hgrow4 hrb4 hb4
  go_wp2_with (at_builtin; go_must (refine wpList_append_any _ rfl (.tmp 32) (.tmp 33) 31 rfl (w2.heap.size + 1) 23 i0 (.agg #[.int .i64 0, .int .i64 0, .int .i64 0, .int .i64 0]) 4 32 Try.underlying31 hi hz0 hz1 hz2 rfl (by decide) v4 a.length (flatI a) rfl Hown4.out bo b.length cb (flatI b) rfl Hb.out (flatI_length b) Hrb4.out.cells (flatI_one b) (by unfold maxLen; omega) (by omega) hsz4 ?_))
  intro v5 w5 hown5 hgrow5
  have hb5 : Below (w2.heap.size + 1) (w2.alloc (.cells #[.int .i64 (outI (addL b)).a, .int .i64 (outI (addL b)).b, .int .i64 (outI (addL b)).c, .int .i64 (outI (addL b)).d] 23)) w5 := below_grown Hb4.out hsz4 hgrow5 (fun k hk => own_block Hown4.out hk)
  obtain ⟨co, cc, hv5, hi5⟩ := owned_at (a := a) (b := b) hown5 (by simp)
  have Hi5 := Lib.hid hi5
  obtain ⟨h5c, h5f⟩ := bcellB hb5
  have w5_b : Below w.heap.size w w5 := (w2_b.alloc w2_le _).trans (hb5.mono (by omega))
  have w5_le := w5_b.size
  have hsz5 : w2.heap.size + 1 ≤ w5.heap.size := by have := hb5.size; simpa using this
  clear hown5 hgrow5 hi5 hb5
  have lt1 : w1.heap.size < w2.heap.size + 1 := by omega
  have lt2 : w1.heap.size < w5.heap.size := by omega
  have lt3 : w2.heap.size < w5.heap.size := by omega
  have px0 : w5.cell? ⟨w1.heap.size, 0, none⟩ = some (.int .i64 (outI (addL a)).a) := by rw [h5c _ _ lt1]; go_simp
  have px1 : w5.cell? ⟨w1.heap.size, 1, none⟩ = some (.int .i64 (outI (addL a)).b) := by rw [h5c _ _ lt1]; go_simp
  have px2 : w5.cell? ⟨w1.heap.size, 2, none⟩ = some (.int .i64 (outI (addL a)).c) := by rw [h5c _ _ lt1]; go_simp
  have px3 : w5.cell? ⟨w1.heap.size, 3, none⟩ = some (.int .i64 (outI (addL a)).d) := by rw [h5c _ _ lt1]; go_simp
  have py0 : w5.cell? ⟨w2.heap.size, 0, none⟩ = some (.int .i64 (outI (addL b)).a) := by rw [h5c _ _ (by omega)]; go_simp
  have py1 : w5.cell? ⟨w2.heap.size, 1, none⟩ = some (.int .i64 (outI (addL b)).b) := by rw [h5c _ _ (by omega)]; go_simp
  have py2 : w5.cell? ⟨w2.heap.size, 2, none⟩ = some (.int .i64 (outI (addL b)).c) := by rw [h5c _ _ (by omega)]; go_simp
  have py3 : w5.cell? ⟨w2.heap.size, 3, none⟩ = some (.int .i64 (outI (addL b)).d) := by rw [h5c _ _ (by omega)]; go_simp
  clear h5c h5f hx0 hx1 hx2 hx3
  have hcall : Calls Try.prog 19 #[.slice co (a.length + b.length) cc] w5 fun e w' => e = .returned (.tuple #[.agg #[.int .i64 (outI (addL (a ++ b))).a, .int .i64 (outI (addL (a ++ b))).b, .int .i64 (outI (addL (a ++ b))).c, .int .i64 (outI (addL (a ++ b))).d], .bool (addL (a ++ b)).isSome]) ∧ Below w5.heap.size w5 w' := by
    have := purse_add co cc (a ++ b) w5 (by simp; omega) Hi5.out
    rwa [List.length_append] at this
  have Hcall := Lib.hid hcall
  clear hcall
  rw [hv5, List.length_append]
  go_wp2_with fail

  refine Hcall.out.mono ?_
  rintro e w7 ⟨rfl, w7_h⟩
  obtain ⟨w7_hc, w7_hf⟩ := bcell w7_h
  have w7_b := w5_b.trans (w7_h.mono w5_b.size)
  have w7_le := w7_b.size
  have lt4 : w1.heap.size < w7.heap.size := Nat.lt_of_lt_of_le lt2 w7_h.size
  have lt5 : w2.heap.size < w7.heap.size := Nat.lt_of_lt_of_le lt3 w7_h.size
  clear w7_h
  go_wp2_with fail
  (refine calls_name fun wb hwb => ?_; have wb_s0 : w1.heap.size < wb.heap.size := (by rw [hwb]; first | omega | (simp; done) | (simp; omega)); have wb_s1 : w2.heap.size < wb.heap.size := (by rw [hwb]; first | omega | (simp; done) | (simp; omega)); have wb_s2 : w7.heap.size < wb.heap.size := (by rw [hwb]; first | omega | (simp; done) | (simp; omega)); have wb_s3 : w7.heap.size + 1 < wb.heap.size := (by rw [hwb]; first | omega | (simp; done) | (simp; omega)); have wb_c0 : wb.cell? ⟨w7.heap.size + 1, 0, none⟩ = some (.int .i64 (outI (addL a)).a) := (by rw [hwb]; go_simp); have wb_c1 : wb.cell? ⟨w7.heap.size + 1, 1, none⟩ = some (.int .i64 (outI (addL a)).b) := (by rw [hwb]; go_simp); have wb_c2 : wb.cell? ⟨w7.heap.size + 1, 2, none⟩ = some (.int .i64 (outI (addL a)).c) := (by rw [hwb]; go_simp); have wb_c3 : wb.cell? ⟨w7.heap.size + 1, 3, none⟩ = some (.int .i64 (outI (addL a)).d) := (by rw [hwb]; go_simp); have wb_c4 : wb.cell? ⟨w7.heap.size + 1, 4, none⟩ = some (.int .i64 (outI (addL b)).a) := (by rw [hwb]; go_simp); have wb_c5 : wb.cell? ⟨w7.heap.size + 1, 5, none⟩ = some (.int .i64 (outI (addL b)).b) := (by rw [hwb]; go_simp); have wb_c6 : wb.cell? ⟨w7.heap.size + 1, 6, none⟩ = some (.int .i64 (outI (addL b)).c) := (by rw [hwb]; go_simp); have wb_c7 : wb.cell? ⟨w7.heap.size + 1, 7, none⟩ = some (.int .i64 (outI (addL b)).d) := (by rw [hwb]; go_simp); have wb_c8 : wb.cell? ⟨w7.heap.size, 0, none⟩ = some (.int .i64 (outI (addL (a ++ b))).a) := (by rw [hwb]; go_simp); have wb_c9 : wb.cell? ⟨w7.heap.size, 1, none⟩ = some (.int .i64 (outI (addL (a ++ b))).b) := (by rw [hwb]; go_simp); have wb_c10 : wb.cell? ⟨w7.heap.size, 2, none⟩ = some (.int .i64 (outI (addL (a ++ b))).c) := (by rw [hwb]; go_simp); have wb_c11 : wb.cell? ⟨w7.heap.size, 3, none⟩ = some (.int .i64 (outI (addL (a ++ b))).d) := (by rw [hwb]; go_simp); have wb_b : Below w.heap.size w wb := (by rw [hwb]; exact (by repeat (first | with_reducible exact Below.refl _ _ | with_reducible assumption | with_reducible refine Below.drew ?_ | with_reducible refine below_drawn ?_ | with_reducible refine Below.alloc ?_ (by first | omega | (simp; done) | (simp; omega) | (simp at *; omega)) _ | with_reducible refine Below.setCell ?_ (by first | omega | (simp; done) | (simp; omega) | (simp at *; omega)) _ | with_reducible refine Below.trans ?_ (Below.mono (by assumption) (by first | omega | (simp; done) | (simp; omega) | (simp at *; omega)))))); clear hwb)
  refine (purse_add_pair _ (outI (addL a)) (outI (addL b)) _ (row_two ⟨⟨wb_c0, wb_c1, wb_c2, wb_c3⟩, wb_c4, wb_c5, wb_c6, wb_c7⟩) wb_s3).mono ?_
  rw [Hz.out]
  (rintro e w8 ⟨rfl, w8_h⟩; obtain ⟨w8_hc, w8_hf⟩ := bcell w8_h; have w8_z := w8_h.size; have w8_b := wb_b.trans (w8_h.mono (by have := wb_b.size; omega)); have w8_le := w8_b.size; have w8_s0 : w7.heap.size < w8.heap.size := (by omega); clear w8_h)
  go_wp2_with fail
  (refine calls_name fun wz hwz => ?_; have wz_b : Below w.heap.size w wz := (by rw [hwz]; exact (by repeat (first | with_reducible exact Below.refl _ _ | with_reducible assumption | with_reducible refine Below.drew ?_ | with_reducible refine below_drawn ?_ | with_reducible refine Below.alloc ?_ (by first | omega | (simp; done) | (simp; omega) | (simp at *; omega)) _ | with_reducible refine Below.setCell ?_ (by first | omega | (simp; done) | (simp; omega) | (simp at *; omega)) _ | with_reducible refine Below.trans ?_ (Below.mono (by assumption) (by first | omega | (simp; done) | (simp; omega) | (simp at *; omega)))))); clear hwz)
  refine (known_any _).mono ?_
  (rintro e w9 ⟨rfl, w9_h⟩; obtain ⟨w9_hc, w9_hf⟩ := bcell w9_h; have w9_z := w9_h.size; have w9_b := wz_b.trans (w9_h.mono (by have := wz_b.size; omega)); have w9_le := w9_b.size; clear w9_h)
  go_wp2_with fail
  go_ret; exact ⟨rfl, (by repeat (first | with_reducible exact Below.refl _ _ | with_reducible assumption | with_reducible refine Below.drew ?_ | with_reducible refine below_drawn ?_ | with_reducible refine Below.alloc ?_ (by first | omega | (simp; done) | (simp; omega) | (simp at *; omega)) _ | with_reducible refine Below.setCell ?_ (by first | omega | (simp; done) | (simp; omega) | (simp at *; omega)) _ | with_reducible refine Below.trans ?_ (Below.mono (by assumption) (by first | omega | (simp; done) | (simp; omega) | (simp at *; omega)))))⟩
theorem rows_walk (ao bo : Option Addr) (ca cb : Nat) (a b : List It) (w : World) (ha0 : ao = none → a.length = 0 ∧ ca = 0) (hb0 : bo = none → b.length = 0 ∧ cb = 0) (hra : ItAt w ao a) (hrb : ItAt w bo b) (hma : a.length * 32 ≤ 140737488351232) (hmb : b.length * 32 ≤ 140737488351232) : Calls Try.prog 8 #[.slice ao a.length ca, .slice bo b.length cb] w fun e w' => e = .returned (.bool true) ∧ Below w.heap.size w w' := by
  by_cases h : (100 : Int) < a.length + b.length
  · exact rows_many ao bo ca cb a b w hma hmb h
  · cases hp : (addL a).isSome with
    | false =>
      have hn := add_rows_none (a := a) (b := b) (.inl (by simpa using hp))
      exact rows_PF ao bo ca cb a b w ha0 hb0 hra hrb hma hmb h hp (by rw [hn]; rfl) (by rw [hn]; rfl)
    | true =>
      cases hq : (addL b).isSome with
      | false =>
        have hn := add_rows_none (a := a) (b := b) (.inr (by simpa using hq))
        exact rows_QF ao bo ca cb a b w ha0 hb0 hra hrb hma hmb h hp hq (by rw [hn]; rfl) (by rw [hn]; rfl)
      | true =>
        obtain ⟨x, hx⟩ := Option.isSome_iff_exists.1 hp
        obtain ⟨y, hy⟩ := Option.isSome_iff_exists.1 hq
        exact rows_BT ao bo ca cb a b w ha0 hb0 hra hrb hma hmb h hp hq (by rw [hx, hy]; exact add_rows_some hx hy)

namespace PurseRowsLift
open Go.ChangeShapes Go.WideShapes Go.ChangeAt Go.RowKit Go.Joins Go.Deep
open Go.ChangeMaps (open_string shut_string)

theorem own : ownKnob Try.prog.godebug = none := by kernel_rfl
theorem laidOut : laidOutB Try.prog = true := by kernel_rfl

set_option maxHeartbeats 1000000 in
set_option maxRecDepth 100000 in
theorem lifted (os : Os) (started : os.Started) (H : Type) (enc : TypeId × Value → H) :
    ReturnsInHanded {} Try.checked os 8 .any (Rows.purseRowsSpec.pre6 enc Try.prog Try.f8 Rows.purseRowsRow.domain false) (Rows.purseRowsSpec.post enc Try.prog Try.f8 false true false false) := by
  refine returnsInHanded_of_change_sized (C := Try.checked) own started (by kernel_rfl) Try.func8
    (ChangeSpec.witness6 (enc := enc) (C := Try.checked) false ⟨#[], #[.slice none 0 0, .slice none 0 0], []⟩ 8 (by kernel_rfl) (by kernel_rfl) (by kernel_rfl) (by kernel_rfl)) ?_
  intro W base args ds gs before hval0 hW hcnd hsz0 _
  have hval : ∀ (j : Nat) t v, Try.f8.params[j]? = some t → args[j]? = some v → Value.okWide Try.prog W .any base t v := hval0
  have hW' := hW
  obtain ⟨p, q, hA0, hV, rfl, hfz, hnd⟩ := hW
  have hA : DataW.TrodAll enc Try.prog W 0 (fun _ => true) true Try.f8.params.toList args.toList ds p := hA0
  have hsz : (DataW.weightsEach Try.prog (Try.f8.params.toList ++ Rows.purseRowsSpec.plain.varTypes Try.prog) (ds ++ gs)).all (· ≤ reachBytes) = true := hsz0
  rw [Try.params8] at hA hval hsz
  obtain ⟨v0, vs0, d0, ds0, p0, q0, hargs, rfl, rfl, h0, r0⟩ := trodAll_cons hA
  obtain ⟨v1, vs1, d1, ds1, p1, q1, rfl, rfl, rfl, h1, r1⟩ := trodAll_cons r0
  obtain ⟨rfl, rfl, rfl⟩ := trodAll_nil r1
  obtain rfl : args = #[v0, v1] := by cases args; simp_all
  obtain ⟨rfl, rfl⟩ := trodVars_none hV
  have k0 := h0
  have lt0 : ∀ x ∈ p0, x.block < W.heap.size := by obtain ⟨m, hm⟩ := k0; exact DataW.trod_lt m _ _ _ hm
  have k1 := h1
  have lt1 : ∀ x ∈ p1, x.block < W.heap.size := by obtain ⟨m, hm⟩ := k1; exact DataW.trod_lt m _ _ _ hm
  have post : ∀ e W', e = Ending.returned (.bool true) → Below W.heap.size W W' → ∃ v, e = .returned v ∧ Rows.purseRowsSpec.post enc Try.prog Try.f8 false true false false W #[v0, v1] v W' := by
    intro e W' he bel
    subst he
    exact ⟨_, rfl, _, _, _, [], _, [], hW', trodAll_mk1 (shut_bool Try.underlying4 _), (trodAll_cons_mk (Below.trod laidOut (by kernel_rfl) (of_decide_eq_true (by kernel_rfl)) k0 bel lt0) (trodAll_cons_mk (Below.trod laidOut (by kernel_rfl) (of_decide_eq_true (by kernel_rfl)) k1 bel lt1) trodAll_mk0)), rfl, bel.frame _, fun h => by cases h⟩
  clear hW' hcnd hfz hnd hA0 hA hval0
  have hb32 : Try.prog.bytesOf 23 = 32 := by kernel_rfl
  obtain ⟨ao, ca, a, rfl, ha0, hra, -⟩ := open_itemss (okWide_slice Try.underlying31 (hval 0 31 v0 rfl rfl)) h0
  obtain ⟨bo, cb, b, rfl, hb0, hrb, -⟩ := open_itemss (okWide_slice Try.underlying31 (hval 1 31 v1 rfl rfl)) h1
  have ra := slice_reach hsz (j := 0) rfl rfl Try.underlying31 k0
  have rb := slice_reach hsz (j := 1) rfl rfl Try.underlying31 k1
  rw [hb32] at ra rb
  exact (rows_walk ao bo ca cb a b W (fun h => ⟨by rw [(ha0 h).1]; rfl, (ha0 h).2⟩) (fun h => ⟨by rw [(hb0 h).1]; rfl, (hb0 h).2⟩) hra hrb ra rb).mono fun e W' ⟨he, bel⟩ => post e W' he bel

theorem over : Rows.purseRowsRow.holds Try.pinned (OpenSpec.ofChange Rows.purseRowsSpec) :=
  OpenClaim.holds_of_wide 8 Try.f8 rfl rfl rfl rfl rfl rfl rfl ⟨rfl, rfl, rfl, rfl, rfl⟩ rfl rfl rfl rfl rfl (by kernel_rfl) Try.func8 (by kernel_rfl)
    (of_decide_eq_true (by kernel_rfl)) (by unfold Func.isWrapper; first | (rw [if_pos (by decide +kernel)]; kernel_rfl) | (rw [if_neg (by decide +kernel)]; exact ⟨rfl, rfl⟩))
    (fun os started H enc _ => lifted os started H enc)
end PurseRowsLift

/-- The statement. -/
theorem purseRows_holds : Rows.PurseRowsSaid := PurseRowsLift.over
#print axioms purseRows_holds
end Go.Proofs.Ytbkagefapmnojaa
