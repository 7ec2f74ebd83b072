/- The law SpanAll: whether any spans have each key just once. -/
import Derived.Test.YtkggjcfjehbbnaaAlls
import Derived.Test.YtkggjcfjehbbnaaOwn
import Derived.Test.YtkggjcfjehbbnaaOpen
import Derived.Laws.AppendOwnNone
import Derived.Test.YtkggjcfjehbbnaaRows
import Derived.ProofKit
import Derived.OpenShut
import Derived.ShutString
import Derived.Lib.SmallJoins
namespace Go.Proofs.Ytkggjcfjehbbnaa
open Go.RowKit

def flat (l : List Sp) : List Value := l.flatMap fun s => [.string s.1, .string s.2]
theorem flat_length (l : List Sp) : (flat l).length = l.length * 2 := by
  induction l with
  | nil => rfl
  | cons s r ih => simp only [flat, List.flatMap_cons, List.length_append, List.length_cons, List.length_nil] at *; omega
theorem flat_get (l : List Sp) (i : Nat) (h : i < l.length) : (flat l)[i * 2]? = some (.string l[i].1) ∧ (flat l)[i * 2 + 1]? = some (.string l[i].2) := by
  induction l generalizing i with
  | nil => simp at h
  | cons s r ih =>
    cases i with
    | zero => exact ⟨rfl, rfl⟩
    | succ i =>
      have := ih i (by simpa using h)
      have e : flat (s :: r) = .string s.1 :: .string s.2 :: flat r := rfl
      rw [e, show (i + 1) * 2 = i * 2 + 1 + 1 from by omega]
      simpa using this
theorem flat_cells {w : World} {b off : Nat} {l : List Sp} (hr : SpanRow w b off l) : ∀ j u, (flat l)[j]? = some u → w.cell? ((⟨b, off, none⟩ : Addr).add j) = some u := by
  intro j u hu
  have hj : j < l.length * 2 := by rw [← flat_length]; exact (List.getElem?_eq_some_iff.1 hu).1
  have hi : j / 2 < l.length := by omega
  have g := flat_get l (j / 2) hi
  have c := hr (j / 2) hi
  rcases (show j = j / 2 * 2 ∨ j = j / 2 * 2 + 1 from by omega) with e | e
  · rw [e] at hu; rw [g.1] at hu; rw [← hu]; rw [add_none, show off + j = off + j / 2 * 2 from by omega]; exact c.1
  · rw [e] at hu; rw [g.2] at hu; rw [← hu]; rw [add_none, show off + j = off + j / 2 * 2 + 1 from by omega]; exact c.2
theorem flat_one (l : List Sp) : ∀ u ∈ flat l, u.oneCell' = true := by
  intro u hu
  simp only [flat, List.mem_flatMap, List.mem_cons, List.not_mem_nil, or_false] at hu
  obtain ⟨s, -, rfl | rfl⟩ := hu <;> rfl
theorem owns_row {w : World} {base n : Nat} {v : Value} {l : List Sp} (h : w.ownsRow base 23 2 v n (flat l)) (hn : n = l.length) (hpos : 0 < l.length) :
    ∃ g cap, v = .slice (some ⟨g, 0, none⟩) n cap ∧ SpanRow w g 0 l ∧ base ≤ g ∧ g < w.heap.size := by
  rcases h.2 with ⟨-, h0⟩ | ⟨g, cap, cur, rfl, hg, hh, -⟩
  · omega
  · refine ⟨g, cap, rfl, fun i hi => ?_, hg, (Array.getElem?_eq_some_iff.1 hh).1⟩
    have g2 := flat_get l i hi
    have c1 := h.cellAt (i * 2) (by omega)
    have c2 := h.cellAt (i * 2 + 1) (by omega)
    rw [g2.1] at c1; rw [g2.2] at c2
    simpa using ⟨c1, c2⟩
theorem spanInfo : (Try.prog.info? 23).map (fun i => (i.zero, i.size, i.bytes)) = some (some (.agg #[.string ⟨#[]⟩, .string ⟨#[]⟩]), 2, 32) := by kernel_rfl

set_option maxHeartbeats 4000000 in
theorem spanAll_some (b off cap : Nat) (l : List Sp) (w : World) (hr : SpanRow w b off l) (hpos : 0 < l.length) (hb : b < w.heap.size) (h100 : l.length ≤ 9223372036854775807) :
    Calls Try.prog 7 #[.slice (some ⟨b, off, none⟩) l.length cap] w fun e w' => e = .returned (.bool true) ∧ Below w.heap.size w w' := by
  have Hr := Lib.hid hr
  clear hr
  by_cases h1 : (100 : Int) < l.length
  · go_enter Try.func7, Try.ntmps7
    go_wp2_with fail
    go_ret; exact ⟨rfl, (by repeat (first | with_reducible exact Below.refl _ _ | with_reducible assumption | with_reducible refine Below.drew ?_ | with_reducible refine below_drawn ?_ | with_reducible refine Below.alloc ?_ (by first | omega | (simp; done) | (simp; omega) | (simp at *; omega)) _ | with_reducible refine Below.setCell ?_ (by first | omega | (simp; done) | (simp; omega) | (simp at *; omega)) _ | with_reducible refine Below.trans ?_ (Below.mono (by assumption) (by first | omega | (simp; done) | (simp; omega) | (simp at *; omega)))))⟩
  cases h2 : tooB l
  rotate_left
  · go_enter Try.func7, Try.ntmps7
    go_wp2_with fail
    refine (heavy_any b off cap l _ h100 Hr.out).mono ?_
    rintro e w0 ⟨rfl, rfl⟩
    go_wp2_with fail
    go_ret; exact ⟨rfl, (by repeat (first | with_reducible exact Below.refl _ _ | with_reducible assumption | with_reducible refine Below.drew ?_ | with_reducible refine below_drawn ?_ | with_reducible refine Below.alloc ?_ (by first | omega | (simp; done) | (simp; omega) | (simp at *; omega)) _ | with_reducible refine Below.setCell ?_ (by first | omega | (simp; done) | (simp; omega) | (simp at *; omega)) _ | with_reducible refine Below.trans ?_ (Below.mono (by assumption) (by first | omega | (simp; done) | (simp; omega) | (simp at *; omega)))))⟩
  · obtain ⟨i0, hi, hz0, hz1, hz2⟩ := info_parts spanInfo
    go_enter Try.func7, Try.ntmps7
    go_wp2_with fail
    refine (heavy_any b off cap l _ h100 Hr.out).mono ?_
    rintro e w0 ⟨rfl, rfl⟩
    go_wp2_with (at_builtin; refine wpList_append_own _ rfl _ _ 35 rfl w.heap.size 23 i0 (.agg #[.string ⟨#[]⟩, .string ⟨#[]⟩]) 2 32 Try.underlying35 hi hz0 hz1 hz2 rfl (by decide) _ 0 [] rfl (owns_empty w w.heap.size (Nat.le_refl _) 23 2) ⟨b, off, none⟩ l.length cap (flat l) rfl (flat_length l) ?c1 (flat_one l) ?c2 ?c3 ?c4 ?_)
    case c1 => exact flat_cells (fun i hi => ⟨by rw [World.cell?_alloc_past _ _ _ hb]; exact (Hr.out i hi).1, by rw [World.cell?_alloc_past _ _ _ hb]; exact (Hr.out i hi).2⟩)
    case c2 => unfold maxLen; omega
    case c3 => omega
    case c4 => simp
    · intro v' w1 hown hgrow _
      obtain ⟨g, cap', rfl, hrow, hg, hgl⟩ := owns_row hown rfl hpos
      have w1_b : Below w.heap.size w w1 := below_grown ((Below.refl _ _).alloc (Nat.le_refl _) _) (by simp) hgrow (fun k hk => by simp [Value.ownBlock] at hk; omega)
      clear hown hgrow
      go_wp2_with fail
      refine (span_all_some g 0 cap' l _ h100 hrow hpos hgl).mono ?_
      rintro e w2 ⟨rfl, w2_h⟩
      have w2_b := w1_b.trans (w2_h.mono w1_b.size)
      have hb2 : b < w2.heap.size := Nat.lt_of_lt_of_le hb w2_b.size
      have hr2 : SpanRow w2 b off l := fun i hi => ⟨(w2_b.cell (p := ⟨b, _, none⟩) hb).trans (Hr.out i hi).1, (w2_b.cell (p := ⟨b, _, none⟩) hb).trans (Hr.out i hi).2⟩
      have Hr2 := Lib.hid hr2
      clear hr2 hrow w2_h
      go_wp2_with fail
      refine (ref_all_some b off cap l _ h100 Hr2.out hpos hb2).mono ?_
      rw [← all_same l]
      rintro e w3 ⟨rfl, w3_h⟩
      have w3_b := w2_b.trans (w3_h.mono w2_b.size)
      clear w3_h
      go_wp2_with fail
      refine (known_any _).mono ?_
      rintro e w4 ⟨rfl, w4_h⟩
      have w4_b := w3_b.trans (w4_h.mono w3_b.size)
      clear w4_h
      go_wp2_with fail
      go_ret
      exact ⟨rfl, w4_b⟩

set_option maxHeartbeats 4000000 in
theorem spanAll_nil (w : World) :
    Calls Try.prog 7 #[.slice none 0 0] w fun e w' => e = .returned (.bool true) ∧ Below w.heap.size w w' := by
  obtain ⟨i0, hi, hz0, hz1, hz2⟩ := info_parts spanInfo
  go_enter Try.func7, Try.ntmps7
  go_wp2_with fail
  refine (heavy_none none 0 _).mono ?_
  rintro e w0 ⟨rfl, rfl⟩
  go_wp2_with (at_builtin; refine wpList_append_own_none rfl _ _ 35 rfl w.heap.size 23 i0 2 Try.underlying35 hi _ 0 [] rfl (owns_empty w w.heap.size (Nat.le_refl _) 23 2) rfl ?_)
  go_wp2_with fail
  refine (span_all_none _ _ _).mono ?_
  rintro e w1 ⟨rfl, w1_h⟩
  have w1_b := ((Below.refl w.heap.size w).alloc (Nat.le_refl _) _).trans (w1_h.mono (by simp))
  clear w1_h
  go_wp2_with fail
  refine (ref_all_none _ _ _).mono ?_
  rintro e w2 ⟨rfl, w2_h⟩
  have w2_b := w1_b.trans (w2_h.mono w1_b.size)
  clear w2_h
  go_wp2_with fail
  refine (known_any _).mono ?_
  rintro e w4 ⟨rfl, w4_h⟩
  have w4_b := w2_b.trans (w4_h.mono w2_b.size)
  clear w4_h
  go_wp2_with fail
  go_ret
  exact ⟨rfl, w4_b⟩

set_option maxHeartbeats 4000000 in
theorem spanAll_empty (ad : Addr) (cap : Nat) (w : World) :
    Calls Try.prog 7 #[.slice (some ad) 0 cap] w fun e w' => e = .returned (.bool true) ∧ Below w.heap.size w w' := by
  obtain ⟨i0, hi, hz0, hz1, hz2⟩ := info_parts spanInfo
  go_enter Try.func7, Try.ntmps7
  go_wp2_with fail
  refine (heavy_none (some ad) cap _).mono ?_
  rintro e w0 ⟨rfl, rfl⟩
  go_wp2_with (at_builtin; refine wpList_append_own _ rfl _ _ 35 rfl w.heap.size 23 i0 (.agg #[.string ⟨#[]⟩, .string ⟨#[]⟩]) 2 32 Try.underlying35 hi hz0 hz1 hz2 rfl (by decide) _ 0 [] rfl (owns_empty w w.heap.size (Nat.le_refl _) 23 2) ad 0 cap [] rfl rfl ?c1 ?c2 ?c3 ?c4 ?c5 ?_)
  case c1 => intro j u hu; simp at hu
  case c2 => intro u hu; simp at hu
  case c3 => simp [maxLen]
  case c4 => simp
  case c5 => simp
  intro v' w1 hown hgrow _
  have w1_b : Below w.heap.size w w1 := below_grown ((Below.refl _ _).alloc (Nat.le_refl _) _) (by simp) hgrow (fun k hk => by simp [Value.ownBlock] at hk; omega)
  have hex : ∃ ao c, v' = .slice ao 0 c := by
    rcases hown.2 with ⟨h, -⟩ | ⟨g, c, cur, h, -⟩
    · exact ⟨none, 0, h⟩
    · exact ⟨_, c, h⟩
  obtain ⟨ao, c, hv⟩ := hex
  clear hown hgrow
  rw [hv]
  go_wp2_with fail
  refine (span_all_none _ _ _).mono ?_
  rintro e w3 ⟨rfl, w3_h⟩
  have w3_b := w1_b.trans (w3_h.mono w1_b.size)
  clear w3_h
  go_wp2_with fail
  refine (ref_all_none _ _ _).mono ?_
  rintro e w2 ⟨rfl, w2_h⟩
  have w2_b := w3_b.trans (w2_h.mono w3_b.size)
  clear w2_h
  go_wp2_with fail
  refine (known_any _).mono ?_
  rintro e w4 ⟨rfl, w4_h⟩
  have w4_b := w2_b.trans (w4_h.mono w2_b.size)
  clear w4_h
  go_wp2_with fail
  go_ret
  exact ⟨rfl, w4_b⟩

theorem spanAll_walk (ao : Option Addr) (cap : Nat) (l : List Sp) (w : World) (h0 : l.length = 0 → ao = none → cap = 0) (hr : 0 < l.length → ∃ b off, ao = some ⟨b, off, none⟩ ∧ b < w.heap.size ∧ SpanRow w b off l) (hm : l.length ≤ 9223372036854775807) :
    Calls Try.prog 7 #[.slice ao l.length cap] w fun e w' => e = .returned (.bool true) ∧ Below w.heap.size w w' := by
  by_cases hpos : 0 < l.length
  · obtain ⟨b, off, rfl, hb, hrow⟩ := hr hpos
    exact spanAll_some b off cap l w hrow hpos hb hm
  · have hl : l.length = 0 := by omega
    rw [hl]
    cases ao with
    | none => rw [h0 hl rfl]; exact spanAll_nil w
    | some ad => exact spanAll_empty ad cap w

open Go.ChangeShapes Go.WideShapes Go.Deep in
theorem open_spans {H : Type} {enc : TypeId × Value → H} {w : World} {v : Value} {d : DataW H} {p : List MemPlace} (hv : ∃ ao n c, v = .slice ao n c) (h : DataW.Trod enc Try.prog w 0 (fun _ => true) true 35 v d p) :
    ∃ ao cap, ∃ l : List Sp, v = .slice ao l.length cap ∧ (l.length = 0 → ao = none → cap = 0) ∧ (0 < l.length → ∃ b off, ao = some ⟨b, off, none⟩ ∧ b < w.heap.size ∧ SpanRow w b off l) ∧ l.length ≤ 9223372036854775807 := by
  obtain ⟨ao, n, c, rfl⟩ := hv
  obtain ⟨fuel, hf⟩ := h
  rcases open_slice_fields Try.underlying35 Try.underlying23 (by kernel_rfl) (by kernel_rfl) hf with ⟨hcs, -⟩ | ⟨a, len, cap, m, D, Pl, hcs, -, hl, hm, hmm, -, hi⟩
  · simp [Value.cells] at hcs
    obtain ⟨rfl, rfl, rfl⟩ := hcs
    exact ⟨none, 0, [], rfl, fun _ _ => rfl, fun h => by simp at h, by simp⟩
  · simp [Value.cells] at hcs
    obtain ⟨rfl, rfl, rfl⟩ := hcs
    simp only [if_true] at hmm
    subst hmm
    have each : ∀ i, i < n → ∃ s : Sp, w.cell? (a.add (i * 2)) = some (.string s.1) ∧ w.cell? (a.add (i * 2 + 1)) = some (.string s.2) := by
      intro i hin
      obtain ⟨ys, n', -, -, -, hfld⟩ := hi i (by omega)
      obtain ⟨v1, y1, c1, -, t1⟩ := hfld 0 _ rfl
      obtain ⟨v2, y2, c2, -, t2⟩ := hfld 1 _ rfl
      obtain ⟨s1, e1, -, -⟩ := DataW.trod_string Try.underlying9 t1
      obtain ⟨s2, e2, -, -⟩ := DataW.trod_string Try.underlying9 t2
      simp at e1 e2
      subst e1 e2
      exact ⟨(s1, s2), by simpa using c1, by simpa using c2⟩
    obtain ⟨l, hlen, hp⟩ := choose_list n each
    subst hlen
    refine ⟨some a, _, l, rfl, fun _ h => by simp at h, fun hpos => ?_, by unfold maxLen at hm; omega⟩
    obtain ⟨b, off, spot⟩ := a
    have c0 := (hp 0 hpos).2
    have hspot : spot = none := by
      cases spot with
      | none => rfl
      | some s => 
        have c0 := (hp 0 hpos).1
        simp [Addr.add, World.cell?] at c0
        split at c0 <;> simp at c0
    subst hspot
    refine ⟨b, off, rfl, ?_, fun i hi => ?_⟩
    · rw [add_none] at c0; exact World.block_lt_of_cell? w _ c0
    · have := hp i hi
      rw [add_none, add_none] at this
      simpa [Nat.add_assoc] using this

namespace SpanAllLift
open Go.ChangeShapes Go.WideShapes Go.ChangeAt Go.RowKit Go.Joins Go.Deep
open Go.ChangeMaps (open_string shut_string)

theorem own : ownKnob Try.prog.godebug = none := by kernel_rfl
theorem laidOut : laidOutB Try.prog = true := by kernel_rfl

set_option maxHeartbeats 1000000 in
set_option maxRecDepth 100000 in
theorem lifted (os : Os) (started : os.Started) (H : Type) (enc : TypeId × Value → H) :
    ReturnsInHanded {} Try.checked os 7 .any (Rows.spanAllSpec.pre6 enc Try.prog Try.f7 Rows.spanAllRow.domain false) (Rows.spanAllSpec.post enc Try.prog Try.f7 false true false false) := by
  refine returnsInHanded_of_change (C := Try.checked) own started (by kernel_rfl) Try.func7
    (ChangeSpec.witness6 (enc := enc) (C := Try.checked) false ⟨#[], #[.slice none 0 0], []⟩ 8 (by kernel_rfl) (by kernel_rfl) (by kernel_rfl) (by kernel_rfl)) ?_
  intro W base args ds gs before hval0 hW hcnd _
  have hval : ∀ (j : Nat) t v, Try.f7.params[j]? = some t → args[j]? = some v → Value.okWide Try.prog W .any base t v := hval0
  have hW' := hW
  obtain ⟨p, q, hA0, hV, rfl, hfz, hnd⟩ := hW
  have hA : DataW.TrodAll enc Try.prog W 0 (fun _ => true) true Try.f7.params.toList args.toList ds p := hA0
  rw [Try.params7] at hA hval
  obtain ⟨v0, vs0, d0, ds0, p0, q0, hargs, rfl, rfl, h0, r0⟩ := trodAll_cons hA
  obtain ⟨rfl, rfl, rfl⟩ := trodAll_nil r0
  obtain rfl : args = #[v0] := by cases args; simp_all
  obtain ⟨rfl, rfl⟩ := trodVars_none hV
  have k0 := h0
  have lt0 : ∀ x ∈ p0, x.block < W.heap.size := by obtain ⟨m, hm⟩ := k0; exact DataW.trod_lt m _ _ _ hm
  have post : ∀ e W', e = Ending.returned (.bool true) → Below W.heap.size W W' → ∃ v, e = .returned v ∧ Rows.spanAllSpec.post enc Try.prog Try.f7 false true false false W #[v0] v W' := by
    intro e W' he bel
    subst he
    exact ⟨_, rfl, _, _, _, [], _, [], hW', trodAll_mk1 (shut_bool Try.underlying4 _), (trodAll_cons_mk (Below.trod laidOut (by kernel_rfl) (of_decide_eq_true (by kernel_rfl)) k0 bel lt0) trodAll_mk0), rfl, bel.frame _, fun h => by cases h⟩
  clear hW' hcnd hfz hnd hA0 hA hval0
  obtain ⟨ao, cap, l, rfl, hn, hr, hm⟩ := open_spans (okWide_slice Try.underlying35 (hval 0 35 v0 rfl rfl)) h0
  exact (spanAll_walk ao cap l W hn hr hm).mono fun e W' ⟨he, bel⟩ => post e W' he bel

theorem over : Rows.spanAllRow.holds Try.pinned (OpenSpec.ofChange Rows.spanAllSpec) :=
  OpenClaim.holds_of_wide 7 Try.f7 rfl rfl rfl rfl rfl rfl rfl ⟨rfl, rfl, rfl, rfl, rfl⟩ rfl rfl rfl rfl rfl (by kernel_rfl) Try.func7 (by kernel_rfl)
    (of_decide_eq_true (by kernel_rfl)) (by unfold Func.isWrapper; first | (rw [if_pos (by decide +kernel)]; kernel_rfl) | (rw [if_neg (by decide +kernel)]; exact ⟨rfl, rfl⟩))
    (fun os started H enc _ => lifted os started H enc)
end SpanAllLift

/-- The statement. -/
theorem spanAll_holds : Rows.SpanAllSaid := SpanAllLift.over
#print axioms spanAll_holds
end Go.Proofs.Ytkggjcfjehbbnaa
