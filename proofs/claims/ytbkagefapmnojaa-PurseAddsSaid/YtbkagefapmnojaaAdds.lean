/- The law PurseAdds: any purses all together, and none where one is none or there is too much. -/
import Derived.Test.YtbkagefapmnojaaW2
import Derived.Test.YtbkagefapmnojaaFlat
import Derived.Test.YtbkagefapmnojaaOpenIt
import Derived.Test.YtbkagefapmnojaaRows
import Derived.ProofKit
import Derived.OpenShut
import Derived.ShutString
import Derived.Lib.SmallJoins
import Derived.Deep.Slices
namespace Go.Proofs.Ytbkagefapmnojaa
open Go.RowKit

set_option maxHeartbeats 4000000 in
theorem adds_nil (w : World) : Calls Try.prog 6 #[.slice none 0 0] w fun e w' => e = .returned (.bool true) ∧ Below w.heap.size w w' := by
  have heq := eql_items zeroI zeroI
  simp only [zeroI] at heq
  obtain ⟨i0, hi, hz0, hz1, hz2⟩ := info_parts itInfo
  go_enter Try.func6, Try.ntmps6
  go_wp2_with (at_builtin; refine wpList_append_own_none rfl _ _ 31 rfl w.heap.size 23 i0 4 Try.underlying31 hi _ 0 [] rfl (owns_empty w w.heap.size (Nat.le_refl _) 23 4) rfl ?_)
  go_wp2_with fail
  (refine calls_name fun wa hwa => ?_; have wa_b : Below w.heap.size w wa := (by rw [hwa]; exact (by repeat (first | with_reducible exact Below.refl _ _ | with_reducible assumption | with_reducible refine Below.drew ?_ | with_reducible refine below_drawn ?_ | with_reducible refine Below.alloc ?_ (by first | omega | (simp; done) | (simp; omega) | (simp at *; omega)) _ | with_reducible refine Below.setCell ?_ (by first | omega | (simp; done) | (simp; omega) | (simp at *; omega)) _ | with_reducible refine Below.trans ?_ (Below.mono (by assumption) (by first | omega | (simp; done) | (simp; omega) | (simp at *; omega)))))); clear hwa)
  refine (purse_add_none _ _ _).mono ?_
  (rintro e w2 ⟨rfl, w2_h⟩; obtain ⟨w2_hc, w2_hf⟩ := bcell w2_h; have w2_z := w2_h.size; have w2_b := wa_b.trans (w2_h.mono (by have := wa_b.size; omega)); have w2_le := w2_b.size; clear w2_h)
  go_wp2_with fail
  (refine calls_name fun wb hwb => ?_; have wb_s0 : w2.heap.size < wb.heap.size := (by rw [hwb]; first | omega | (simp; done) | (simp; omega)); have wb_c0 : wb.cell? ⟨w2.heap.size, 0, none⟩ = some (.int .i64 0) := (by rw [hwb]; go_simp); have wb_c1 : wb.cell? ⟨w2.heap.size, 1, none⟩ = some (.int .i64 0) := (by rw [hwb]; go_simp); have wb_c2 : wb.cell? ⟨w2.heap.size, 2, none⟩ = some (.int .i64 0) := (by rw [hwb]; go_simp); have wb_c3 : wb.cell? ⟨w2.heap.size, 3, none⟩ = some (.int .i64 0) := (by rw [hwb]; go_simp); have wb_b : Below w.heap.size w wb := (by rw [hwb]; exact (by repeat (first | with_reducible exact Below.refl _ _ | with_reducible assumption | with_reducible refine Below.drew ?_ | with_reducible refine below_drawn ?_ | with_reducible refine Below.alloc ?_ (by first | omega | (simp; done) | (simp; omega) | (simp at *; omega)) _ | with_reducible refine Below.setCell ?_ (by first | omega | (simp; done) | (simp; omega) | (simp at *; omega)) _ | with_reducible refine Below.trans ?_ (Below.mono (by assumption) (by first | omega | (simp; done) | (simp; omega) | (simp at *; omega)))))); clear hwb)
  refine (satrapyref8_add_none _ _ _).mono ?_
  (rintro e w3 ⟨rfl, w3_h⟩; obtain ⟨w3_hc, w3_hf⟩ := bcell w3_h; have w3_z := w3_h.size; have w3_b := wb_b.trans (w3_h.mono (by have := wb_b.size; omega)); have w3_le := w3_b.size; have w3_s0 : w2.heap.size < w3.heap.size := (by omega); clear w3_h)
  go_wp2_with fail
  refine wp_loop_rounds 1 ?_
  rw [rounds_succ]
  go_wp2_with fail
  (refine calls_name fun wc hwc => ?_; have wc_b : Below w.heap.size w wc := (by rw [hwc]; exact (by repeat (first | with_reducible exact Below.refl _ _ | with_reducible assumption | with_reducible refine Below.drew ?_ | with_reducible refine below_drawn ?_ | with_reducible refine Below.alloc ?_ (by first | omega | (simp; done) | (simp; omega) | (simp at *; omega)) _ | with_reducible refine Below.setCell ?_ (by first | omega | (simp; done) | (simp; omega) | (simp at *; omega)) _ | with_reducible refine Below.trans ?_ (Below.mono (by assumption) (by first | omega | (simp; done) | (simp; omega) | (simp at *; omega)))))); clear hwc)
  refine (known_any _).mono ?_
  (rintro e w4 ⟨rfl, w4_h⟩; obtain ⟨w4_hc, w4_hf⟩ := bcell w4_h; have w4_z := w4_h.size; have w4_b := wc_b.trans (w4_h.mono (by have := wc_b.size; omega)); have w4_le := w4_b.size; clear w4_h)
  go_wp2_with fail
  go_ret; exact ⟨rfl, (by repeat (first | with_reducible exact Below.refl _ _ | with_reducible assumption | with_reducible refine Below.drew ?_ | with_reducible refine below_drawn ?_ | with_reducible refine Below.alloc ?_ (by first | omega | (simp; done) | (simp; omega) | (simp at *; omega)) _ | with_reducible refine Below.setCell ?_ (by first | omega | (simp; done) | (simp; omega) | (simp at *; omega)) _ | with_reducible refine Below.trans ?_ (Below.mono (by assumption) (by first | omega | (simp; done) | (simp; omega) | (simp at *; omega)))))⟩

set_option maxHeartbeats 4000000 in
theorem adds_empty (ad : Addr) (cap : Nat) (w : World) : Calls Try.prog 6 #[.slice (some ad) 0 cap] w fun e w' => e = .returned (.bool true) ∧ Below w.heap.size w w' := by
  have heq := eql_items zeroI zeroI
  simp only [zeroI] at heq
  obtain ⟨i0, hi, hz0, hz1, hz2⟩ := info_parts itInfo
  go_enter Try.func6, Try.ntmps6
  go_wp2_with (at_builtin; refine wpList_append_own _ rfl _ _ 31 rfl w.heap.size 23 i0 (.agg #[.int .i64 0, .int .i64 0, .int .i64 0, .int .i64 0]) 4 32 Try.underlying31 hi hz0 hz1 hz2 rfl (by decide) _ 0 [] rfl (owns_empty w w.heap.size (Nat.le_refl _) 23 4) ad 0 cap [] rfl rfl ?c1 ?c2 ?c3 ?c4 ?c5 ?_)
  case c1 => intro j u hu; simp at hu
  case c2 => intro u hu; simp at hu
  case c3 => simp [maxLen]
  case c4 => simp
  case c5 => simp
  intro v' w1 hown hgrow _
  have w1_b : Below w.heap.size w w1 := below_grown ((Below.refl _ _).alloc (Nat.le_refl _) _) (by simp) hgrow (fun k hk => by simp [Value.ownBlock] at hk; omega)
  have w1_le := w1_b.size
  have hex : ∃ ao c, v' = .slice ao 0 c := by
    rcases hown.2 with ⟨h, -⟩ | ⟨g, c, cur, h, -⟩
    · exact ⟨none, 0, h⟩
    · exact ⟨_, c, h⟩
  obtain ⟨ao, c, hv⟩ := hex
  clear hown hgrow
  rw [hv]
  go_wp2_with fail
  (refine calls_name fun wa hwa => ?_; have wa_b : Below w.heap.size w wa := (by rw [hwa]; exact (by repeat (first | with_reducible exact Below.refl _ _ | with_reducible assumption | with_reducible refine Below.drew ?_ | with_reducible refine below_drawn ?_ | with_reducible refine Below.alloc ?_ (by first | omega | (simp; done) | (simp; omega) | (simp at *; omega)) _ | with_reducible refine Below.setCell ?_ (by first | omega | (simp; done) | (simp; omega) | (simp at *; omega)) _ | with_reducible refine Below.trans ?_ (Below.mono (by assumption) (by first | omega | (simp; done) | (simp; omega) | (simp at *; omega)))))); clear hwa)
  refine (purse_add_none _ _ _).mono ?_
  (rintro e w2 ⟨rfl, w2_h⟩; obtain ⟨w2_hc, w2_hf⟩ := bcell w2_h; have w2_z := w2_h.size; have w2_b := wa_b.trans (w2_h.mono (by have := wa_b.size; omega)); have w2_le := w2_b.size; clear w2_h)
  go_wp2_with fail
  (refine calls_name fun wb hwb => ?_; have wb_s0 : w2.heap.size < wb.heap.size := (by rw [hwb]; first | omega | (simp; done) | (simp; omega)); have wb_c0 : wb.cell? ⟨w2.heap.size, 0, none⟩ = some (.int .i64 0) := (by rw [hwb]; go_simp); have wb_c1 : wb.cell? ⟨w2.heap.size, 1, none⟩ = some (.int .i64 0) := (by rw [hwb]; go_simp); have wb_c2 : wb.cell? ⟨w2.heap.size, 2, none⟩ = some (.int .i64 0) := (by rw [hwb]; go_simp); have wb_c3 : wb.cell? ⟨w2.heap.size, 3, none⟩ = some (.int .i64 0) := (by rw [hwb]; go_simp); have wb_b : Below w.heap.size w wb := (by rw [hwb]; exact (by repeat (first | with_reducible exact Below.refl _ _ | with_reducible assumption | with_reducible refine Below.drew ?_ | with_reducible refine below_drawn ?_ | with_reducible refine Below.alloc ?_ (by first | omega | (simp; done) | (simp; omega) | (simp at *; omega)) _ | with_reducible refine Below.setCell ?_ (by first | omega | (simp; done) | (simp; omega) | (simp at *; omega)) _ | with_reducible refine Below.trans ?_ (Below.mono (by assumption) (by first | omega | (simp; done) | (simp; omega) | (simp at *; omega)))))); clear hwb)
  refine (satrapyref8_add_none _ _ _).mono ?_
  (rintro e w3 ⟨rfl, w3_h⟩; obtain ⟨w3_hc, w3_hf⟩ := bcell w3_h; have w3_z := w3_h.size; have w3_b := wb_b.trans (w3_h.mono (by have := wb_b.size; omega)); have w3_le := w3_b.size; have w3_s0 : w2.heap.size < w3.heap.size := (by omega); clear w3_h)
  go_wp2_with fail
  refine wp_loop_rounds 1 ?_
  rw [rounds_succ]
  go_wp2_with fail
  (refine calls_name fun wc hwc => ?_; have wc_b : Below w.heap.size w wc := (by rw [hwc]; exact (by repeat (first | with_reducible exact Below.refl _ _ | with_reducible assumption | with_reducible refine Below.drew ?_ | with_reducible refine below_drawn ?_ | with_reducible refine Below.alloc ?_ (by first | omega | (simp; done) | (simp; omega) | (simp at *; omega)) _ | with_reducible refine Below.setCell ?_ (by first | omega | (simp; done) | (simp; omega) | (simp at *; omega)) _ | with_reducible refine Below.trans ?_ (Below.mono (by assumption) (by first | omega | (simp; done) | (simp; omega) | (simp at *; omega)))))); clear hwc)
  refine (known_any _).mono ?_
  (rintro e w4 ⟨rfl, w4_h⟩; obtain ⟨w4_hc, w4_hf⟩ := bcell w4_h; have w4_z := w4_h.size; have w4_b := wc_b.trans (w4_h.mono (by have := wc_b.size; omega)); have w4_le := w4_b.size; clear w4_h)
  go_wp2_with fail
  go_ret; exact ⟨rfl, (by repeat (first | with_reducible exact Below.refl _ _ | with_reducible assumption | with_reducible refine Below.drew ?_ | with_reducible refine below_drawn ?_ | with_reducible refine Below.alloc ?_ (by first | omega | (simp; done) | (simp; omega) | (simp at *; omega)) _ | with_reducible refine Below.setCell ?_ (by first | omega | (simp; done) | (simp; omega) | (simp at *; omega)) _ | with_reducible refine Below.trans ?_ (Below.mono (by assumption) (by first | omega | (simp; done) | (simp; omega) | (simp at *; omega)))))⟩

set_option maxHeartbeats 8000000 in
theorem adds_some (b off cap : Nat) (l : List It) (w : World) (hr : ItRow w b off l) (hpos : 0 < l.length) (hb : b < w.heap.size) (hm : l.length ≤ 9223372036854775807) :
    Calls Try.prog 6 #[.slice (some ⟨b, off, none⟩) l.length cap] w fun e w' => e = .returned (.bool true) ∧ Below w.heap.size w w' := by
  have Hr := Lib.hid hr
  clear hr
  by_cases h1 : (200 : Int) < l.length
  · go_enter Try.func6, Try.ntmps6
    go_wp2_with fail
    go_ret; exact ⟨rfl, (by repeat (first | with_reducible exact Below.refl _ _ | with_reducible assumption | with_reducible refine Below.drew ?_ | with_reducible refine below_drawn ?_ | with_reducible refine Below.alloc ?_ (by first | omega | (simp; done) | (simp; omega) | (simp at *; omega)) _ | with_reducible refine Below.setCell ?_ (by first | omega | (simp; done) | (simp; omega) | (simp at *; omega)) _ | with_reducible refine Below.trans ?_ (Below.mono (by assumption) (by first | omega | (simp; done) | (simp; omega) | (simp at *; omega)))))⟩
  have heq := eql_items (outI (addL l)) (outI (addL l))
  obtain ⟨i0, hi, hz0, hz1, hz2⟩ := info_parts itInfo
  go_enter Try.func6, Try.ntmps6
  go_wp2_with (at_builtin; refine wpList_append_own _ rfl _ _ 31 rfl w.heap.size 23 i0 (.agg #[.int .i64 0, .int .i64 0, .int .i64 0, .int .i64 0]) 4 32 Try.underlying31 hi hz0 hz1 hz2 rfl (by decide) _ 0 [] rfl (owns_empty w w.heap.size (Nat.le_refl _) 23 4) ⟨b, off, none⟩ l.length cap (flatI l) rfl (flatI_length l) (flatI_cells (Hr.out.below hb ((Below.refl _ _).alloc (Nat.le_refl _) _))) (flatI_one l) (by unfold maxLen; omega) (by omega) (by simp) ?_)
  intro v' w1 hown hgrow _
  have w1_b : Below w.heap.size w w1 := below_grown ((Below.refl _ _).alloc (Nat.le_refl _) _) (by simp) hgrow (fun k hk => by simp [Value.ownBlock] at hk; omega)
  have w1_le := w1_b.size
  have hex : ∃ g c, v' = .slice (some ⟨g, 0, none⟩) l.length c ∧ w.heap.size ≤ g ∧ ItRow w1 g 0 l ∧ g < w1.heap.size := by
    obtain ⟨ao, c, hv, -, hx⟩ := owns_rowI (by simpa using hown) rfl
    obtain ⟨g, hg, h1, h2, h3⟩ := hx hpos
    exact ⟨g, c, by rw [hv, hg], h1, h2, h3⟩
  obtain ⟨g, c, hv, hg, hrow, hgl⟩ := hex
  have Hrow := Lib.hid hrow
  clear hown hgrow hrow
  rw [hv]
  go_wp2_with fail
  refine (purse_add (some ⟨g, 0, none⟩) c l w1 hm (Hrow.out.at hgl)).mono ?_
  rintro e w2 ⟨rfl, w2_h⟩
  have w2_b := w1_b.trans (w2_h.mono w1_b.size)
  have w2_le := w2_b.size
  have hrow2 := Hrow.out.below hgl w2_h
  have Hrow2 := Lib.hid hrow2
  have hgl2 : g < w2.heap.size := Nat.lt_of_lt_of_le hgl w2_h.size
  clear hrow2 w2_h
  go_wp2_with fail
  (refine calls_name fun wb hwb => ?_; have wb_s0 : w2.heap.size < wb.heap.size := (by rw [hwb]; first | omega | (simp; done) | (simp; omega)); have wb_s1 : g < wb.heap.size := (by rw [hwb]; first | omega | (simp; done) | (simp; omega)); have wb_s2 : b < wb.heap.size := (by rw [hwb]; first | omega | (simp; done) | (simp; omega)); have wb_c0 : wb.cell? ⟨w2.heap.size, 0, none⟩ = some (.int .i64 (outI (addL l)).a) := (by rw [hwb]; go_simp); have wb_c1 : wb.cell? ⟨w2.heap.size, 1, none⟩ = some (.int .i64 (outI (addL l)).b) := (by rw [hwb]; go_simp); have wb_c2 : wb.cell? ⟨w2.heap.size, 2, none⟩ = some (.int .i64 (outI (addL l)).c) := (by rw [hwb]; go_simp); have wb_c3 : wb.cell? ⟨w2.heap.size, 3, none⟩ = some (.int .i64 (outI (addL l)).d) := (by rw [hwb]; go_simp); have wb_b : Below w.heap.size w wb := (by rw [hwb]; exact (by repeat (first | with_reducible exact Below.refl _ _ | with_reducible assumption | with_reducible refine Below.drew ?_ | with_reducible refine below_drawn ?_ | with_reducible refine Below.alloc ?_ (by first | omega | (simp; done) | (simp; omega) | (simp at *; omega)) _ | with_reducible refine Below.setCell ?_ (by first | omega | (simp; done) | (simp; omega) | (simp at *; omega)) _ | with_reducible refine Below.trans ?_ (Below.mono (by assumption) (by first | omega | (simp; done) | (simp; omega) | (simp at *; omega)))))))
  have hrow4 : ItRow wb g 0 l := by rw [hwb]; exact Hrow2.out.below hgl2 ((Below.refl _ _).alloc (Nat.le_refl _) _)
  clear hwb
  have Hrow4 := Lib.hid hrow4
  clear hrow4
  refine (satrapyref8_add (some ⟨b, off, none⟩) cap l wb hm ((Hr.out.below hb wb_b).at wb_s2)).mono ?_
  rintro e w3 ⟨rfl, w3_h⟩
  obtain ⟨w3_hc, w3_hf⟩ := bcell w3_h
  have w3_b := wb_b.trans (w3_h.mono wb_b.size)
  have w3_le := w3_b.size
  have w3_s0 : w2.heap.size < w3.heap.size := Nat.lt_of_lt_of_le wb_s0 w3_h.size
  have hrow5 := Hrow4.out.below wb_s1 w3_h
  have Hrow5 := Lib.hid hrow5
  have hgl3 : g < w3.heap.size := Nat.lt_of_lt_of_le wb_s1 w3_h.size
  have hbl3 : b < w3.heap.size := Nat.lt_of_lt_of_le wb_s2 w3_h.size
  clear hrow5 w3_h
  go_wp2_with fail
  refine wp_name fun w4 hw4 => ?_
  have w4_b : Below w.heap.size w w4 := by rw [hw4]; exact (by repeat (first | with_reducible exact Below.refl _ _ | with_reducible assumption | with_reducible refine Below.drew ?_ | with_reducible refine below_drawn ?_ | with_reducible refine Below.alloc ?_ (by first | omega | (simp; done) | (simp; omega) | (simp at *; omega)) _ | with_reducible refine Below.setCell ?_ (by first | omega | (simp; done) | (simp; omega) | (simp at *; omega)) _ | with_reducible refine Below.trans ?_ (Below.mono (by assumption) (by first | omega | (simp; done) | (simp; omega) | (simp at *; omega)))))
  have w4_s0 : w2.heap.size < w4.heap.size := by rw [hw4]; simp; omega
  have w4_s1 : w3.heap.size < w4.heap.size := by rw [hw4]; simp
  have hgl4 : g < w4.heap.size := by rw [hw4]; simp; omega
  have hbl4 : b < w4.heap.size := by rw [hw4]; simp; omega
  have p0 : w4.cell? ⟨w2.heap.size, 0, none⟩ = some (.int .i64 (outI (addL l)).a) := by rw [hw4]; go_simp
  have p1 : w4.cell? ⟨w2.heap.size, 1, none⟩ = some (.int .i64 (outI (addL l)).b) := by rw [hw4]; go_simp
  have p2 : w4.cell? ⟨w2.heap.size, 2, none⟩ = some (.int .i64 (outI (addL l)).c) := by rw [hw4]; go_simp
  have p3 : w4.cell? ⟨w2.heap.size, 3, none⟩ = some (.int .i64 (outI (addL l)).d) := by rw [hw4]; go_simp
  have q0 : w4.cell? ⟨w3.heap.size, 0, none⟩ = some (.int .i64 (outI (addL l)).a) := by rw [hw4]; go_simp
  have q1 : w4.cell? ⟨w3.heap.size, 1, none⟩ = some (.int .i64 (outI (addL l)).b) := by rw [hw4]; go_simp
  have q2 : w4.cell? ⟨w3.heap.size, 2, none⟩ = some (.int .i64 (outI (addL l)).c) := by rw [hw4]; go_simp
  have q3 : w4.cell? ⟨w3.heap.size, 3, none⟩ = some (.int .i64 (outI (addL l)).d) := by rw [hw4]; go_simp
  have hrow6 : ItRow w4 g 0 l := by rw [hw4]; exact Hrow5.out.below hgl3 ((Below.refl _ _).alloc (Nat.le_refl _) _)
  have Hrow6 := Lib.hid hrow6
  have Hrow7 := Lib.hid (Hr.out.below hb w4_b)
  clear hw4 hrow6 w3_hc w3_hf
  go_loopw [8] (fun i wr => ∃ k : Nat, k ≤ l.length ∧ i = .int .i64 k ∧ Below w4.heap.size w4 wr) (fun i _ => l.length - (intOf i).toNat)
  case atStart => exact ⟨0, Nat.zero_le _, rfl, Below.refl _ _⟩
  case round =>
    obtain ⟨k, hk, rfl, wr_b⟩ := hrel
    obtain ⟨wr_hc, wr_hf⟩ := bcell wr_b
    have wr_le := wr_b.size
    by_cases hlt : k < l.length
    · obtain ⟨x0, x1, x2, x3⟩ := (Hrow6.out.below hgl4 wr_b) k hlt
      obtain ⟨y0, y1, y2, y3⟩ := (Hrow7.out.below hbl4 wr_b) k hlt
      obtain ⟨x, hx⟩ : ∃ x, x = l[k] := ⟨_, rfl⟩
      rw [← hx] at x0 x1 x2 x3 y0 y1 y2 y3
      clear hx heq wr_hc wr_hf p0 p1 p2 p3 q0 q1 q2 q3
      have heq := eql_items x x
      simp only [Nat.zero_add] at x0 x1 x2 x3
      go_wp2_with fail
      go_quiet (fail)
      go_wp2_with fail
      go_roundw
      case rel => exact ⟨k + 1, by omega, by go_num, (by repeat (first | with_reducible exact Below.refl _ _ | with_reducible assumption | with_reducible refine Below.drew ?_ | with_reducible refine below_drawn ?_ | with_reducible refine Below.alloc ?_ (by first | omega | (simp; done) | (simp; omega) | (simp at *; omega)) _ | with_reducible refine Below.setCell ?_ (by first | omega | (simp; done) | (simp; omega) | (simp at *; omega)) _ | with_reducible refine Below.trans ?_ (Below.mono (by assumption) (by first | omega | (simp; done) | (simp; omega) | (simp at *; omega)))))⟩
      case measure => simp [intOf]; omega
    · go_wp2_with fail
      (refine calls_name fun wz hwz => ?_; have wz_b : Below w4.heap.size w4 wz := (by rw [hwz]; exact (by repeat (first | with_reducible exact Below.refl _ _ | with_reducible assumption | with_reducible refine Below.drew ?_ | with_reducible refine below_drawn ?_ | with_reducible refine Below.alloc ?_ (by first | omega | (simp; done) | (simp; omega) | (simp at *; omega)) _ | with_reducible refine Below.setCell ?_ (by first | omega | (simp; done) | (simp; omega) | (simp at *; omega)) _ | with_reducible refine Below.trans ?_ (Below.mono (by assumption) (by first | omega | (simp; done) | (simp; omega) | (simp at *; omega)))))); clear hwz)
      refine (known_any _).mono ?_
      rintro e wy ⟨rfl, wy_h⟩
      go_wp2_with fail
      go_ret
      exact ⟨rfl, w4_b.trans ((wz_b.trans (wy_h.mono wz_b.size)).mono (by omega))⟩
theorem adds_walk (ao : Option Addr) (cap : Nat) (l : List It) (w : World) (h0 : ao = none → l = [] ∧ cap = 0) (hr : ItAt w ao l) (hm : l.length ≤ 9223372036854775807) : Calls Try.prog 6 #[.slice ao l.length cap] w fun e w' => e = .returned (.bool true) ∧ Below w.heap.size w w' := by
  by_cases hpos : 0 < l.length
  · obtain ⟨b, off, rfl, hb, hrow⟩ := hr hpos
    exact adds_some b off cap l w hrow hpos hb hm
  · have hl : l.length = 0 := by omega
    rw [hl]
    cases ao with
    | none => rw [(h0 rfl).2]; exact adds_nil w
    | some ad => exact adds_empty ad cap w

namespace PurseAddsLift
open Go.ChangeShapes Go.WideShapes Go.ChangeAt Go.RowKit Go.Joins Go.Deep
open Go.ChangeMaps (open_string shut_string)

theorem own : ownKnob Try.prog.godebug = none := by kernel_rfl
theorem laidOut : laidOutB Try.prog = true := by kernel_rfl

set_option maxHeartbeats 1000000 in
set_option maxRecDepth 100000 in
theorem lifted (os : Os) (started : os.Started) (H : Type) (enc : TypeId × Value → H) :
    ReturnsInHanded {} Try.checked os 6 .any (Rows.purseAddsSpec.pre6 enc Try.prog Try.f6 Rows.purseAddsRow.domain false) (Rows.purseAddsSpec.post enc Try.prog Try.f6 false true false false) := by
  refine returnsInHanded_of_change (C := Try.checked) own started (by kernel_rfl) Try.func6
    (ChangeSpec.witness6 (enc := enc) (C := Try.checked) false ⟨#[], #[.slice none 0 0], []⟩ 8 (by kernel_rfl) (by kernel_rfl) (by kernel_rfl) (by kernel_rfl)) ?_
  intro W base args ds gs before hval0 hW hcnd _
  have hval : ∀ (j : Nat) t v, Try.f6.params[j]? = some t → args[j]? = some v → Value.okWide Try.prog W .any base t v := hval0
  have hW' := hW
  obtain ⟨p, q, hA0, hV, rfl, hfz, hnd⟩ := hW
  have hA : DataW.TrodAll enc Try.prog W 0 (fun _ => true) true Try.f6.params.toList args.toList ds p := hA0
  rw [Try.params6] at hA hval
  obtain ⟨v0, vs0, d0, ds0, p0, q0, hargs, rfl, rfl, h0, r0⟩ := trodAll_cons hA
  obtain ⟨rfl, rfl, rfl⟩ := trodAll_nil r0
  obtain rfl : args = #[v0] := by cases args; simp_all
  obtain ⟨rfl, rfl⟩ := trodVars_none hV
  have k0 := h0
  have lt0 : ∀ x ∈ p0, x.block < W.heap.size := by obtain ⟨m, hm⟩ := k0; exact DataW.trod_lt m _ _ _ hm
  have post : ∀ e W', e = Ending.returned (.bool true) → Below W.heap.size W W' → ∃ v, e = .returned v ∧ Rows.purseAddsSpec.post enc Try.prog Try.f6 false true false false W #[v0] v W' := by
    intro e W' he bel
    subst he
    exact ⟨_, rfl, _, _, _, [], _, [], hW', trodAll_mk1 (shut_bool Try.underlying4 _), (trodAll_cons_mk (Below.trod laidOut (by kernel_rfl) (of_decide_eq_true (by kernel_rfl)) k0 bel lt0) trodAll_mk0), rfl, bel.frame _, fun h => by cases h⟩
  clear hW' hcnd hfz hnd hA0 hA hval0
  obtain ⟨ao, cap, l, rfl, hn, hr, hm⟩ := open_itemss (okWide_slice Try.underlying31 (hval 0 31 v0 rfl rfl)) h0
  exact (adds_walk ao cap l W hn hr hm).mono fun e W' ⟨he, bel⟩ => post e W' he bel

theorem over : Rows.purseAddsRow.holds Try.pinned (OpenSpec.ofChange Rows.purseAddsSpec) :=
  OpenClaim.holds_of_wide 6 Try.f6 rfl rfl rfl rfl rfl rfl rfl ⟨rfl, rfl, rfl, rfl, rfl⟩ rfl rfl rfl rfl rfl (by kernel_rfl) Try.func6 (by kernel_rfl)
    (of_decide_eq_true (by kernel_rfl)) (by unfold Func.isWrapper; first | (rw [if_pos (by decide +kernel)]; kernel_rfl) | (rw [if_neg (by decide +kernel)]; exact ⟨rfl, rfl⟩))
    (fun os started H enc _ => lifted os started H enc)
end PurseAddsLift

/-- The statement. -/
theorem purseAdds_holds : Rows.PurseAddsSaid := PurseAddsLift.over
#print axioms purseAdds_holds
end Go.Proofs.Ytbkagefapmnojaa
