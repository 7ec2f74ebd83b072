/- Slices of purses of the call's own; such a slice that came in, opened. -/
import Derived.Test.YtbkagefapmnojaaAddAll
import Derived.Test.YtbkagefapmnojaaOwn
import Derived.Test.YtbkagefapmnojaaOpenIt
import Derived.Laws.AppendOwnNone
namespace Go.Proofs.Ytbkagefapmnojaa
open Go.RowKit

def flatI (l : List It) : List Value := l.flatMap fun s => [.int .i64 s.a, .int .i64 s.b, .int .i64 s.c, .int .i64 s.d]
theorem flatI_length (l : List It) : (flatI l).length = l.length * 4 := by
  induction l with
  | nil => rfl
  | cons s r ih => simp only [flatI, List.flatMap_cons, List.length_append, List.length_cons, List.length_nil] at *; omega
theorem flatI_append (a b : List It) : flatI a ++ flatI b = flatI (a ++ b) := by simp [flatI]
theorem flatI_get (l : List It) (i : Nat) (h : i < l.length) : (flatI l)[i * 4]? = some (.int .i64 l[i].a) ∧ (flatI l)[i * 4 + 1]? = some (.int .i64 l[i].b) ∧ (flatI l)[i * 4 + 2]? = some (.int .i64 l[i].c) ∧ (flatI l)[i * 4 + 3]? = some (.int .i64 l[i].d) := by
  induction l generalizing i with
  | nil => simp at h
  | cons s r ih =>
    cases i with
    | zero => exact ⟨rfl, rfl, rfl, rfl⟩
    | succ i =>
      have := ih i (by simpa using h)
      have e : flatI (s :: r) = .int .i64 s.a :: .int .i64 s.b :: .int .i64 s.c :: .int .i64 s.d :: flatI r := rfl
      rw [e, show (i + 1) * 4 = i * 4 + 1 + 1 + 1 + 1 from by omega]
      simpa [Nat.add_assoc] using this
theorem flatI_cells {w : World} {b off : Nat} {l : List It} (hr : ItRow w b off l) : ∀ j u, (flatI l)[j]? = some u → w.cell? ((⟨b, off, none⟩ : Addr).add j) = some u := by
  intro j u hu
  have hj : j < l.length * 4 := by rw [← flatI_length]; exact (List.getElem?_eq_some_iff.1 hu).1
  have hi : j / 4 < l.length := by omega
  obtain ⟨g0, g1, g2, g3⟩ := flatI_get l (j / 4) hi
  obtain ⟨c0, c1, c2, c3⟩ := hr (j / 4) hi
  rcases (show j = j / 4 * 4 ∨ j = j / 4 * 4 + 1 ∨ j = j / 4 * 4 + 2 ∨ j = j / 4 * 4 + 3 from by omega) with e | e | e | e
  · rw [e] at hu; rw [g0] at hu; rw [← hu]; rw [add_none, show off + j = off + j / 4 * 4 from by omega]; exact c0
  · rw [e] at hu; rw [g1] at hu; rw [← hu]; rw [add_none, show off + j = off + j / 4 * 4 + 1 from by omega]; exact c1
  · rw [e] at hu; rw [g2] at hu; rw [← hu]; rw [add_none, show off + j = off + j / 4 * 4 + 2 from by omega]; exact c2
  · rw [e] at hu; rw [g3] at hu; rw [← hu]; rw [add_none, show off + j = off + j / 4 * 4 + 3 from by omega]; exact c3
theorem flatI_one (l : List It) : ∀ u ∈ flatI l, u.oneCell' = true := by
  intro u hu
  simp only [flatI, List.mem_flatMap, List.mem_cons, List.not_mem_nil, or_false] at hu
  obtain ⟨s, -, rfl | rfl | rfl | rfl⟩ := hu <;> rfl
theorem owns_rowI {w : World} {base n : Nat} {v : Value} {l : List It} (h : w.ownsRow base 23 4 v n (flatI l)) (hn : n = l.length) :
    ∃ ao cap, v = .slice ao n cap ∧ ItAt w ao l ∧ (0 < n → ∃ g, ao = some ⟨g, 0, none⟩ ∧ base ≤ g ∧ ItRow w g 0 l ∧ g < w.heap.size) := by
  rcases h.2 with ⟨hv, h0⟩ | ⟨g, cap, cur, rfl, hg, hh, -⟩
  · exact ⟨none, 0, by rw [hv, h0], fun hp => by omega, fun hp => by omega⟩
  · have hrow : ItRow w g 0 l := by
      intro i hi
      obtain ⟨g0, g1, g2, g3⟩ := flatI_get l i hi
      have c0 := h.cellAt (i * 4) (by omega)
      have c1 := h.cellAt (i * 4 + 1) (by omega)
      have c2 := h.cellAt (i * 4 + 2) (by omega)
      have c3 := h.cellAt (i * 4 + 3) (by omega)
      rw [g0] at c0; rw [g1] at c1; rw [g2] at c2; rw [g3] at c3
      simpa using ⟨c0, c1, c2, c3⟩
    have hlt := (Array.getElem?_eq_some_iff.1 hh).1
    exact ⟨_, cap, rfl, fun _ => ⟨g, 0, rfl, hlt, hrow⟩, fun _ => ⟨g, rfl, hg, hrow, hlt⟩⟩
theorem itInfo : (Try.prog.info? 23).map (fun i => (i.zero, i.size, i.bytes)) = some (some (.agg #[.int .i64 0, .int .i64 0, .int .i64 0, .int .i64 0]), 4, 32) := by kernel_rfl

open Go.ChangeShapes Go.WideShapes Go.Deep in
theorem open_itemss {H : Type} {enc : TypeId × Value → H} {w : World} {v : Value} {d : DataW H} {p : List MemPlace} (hv : ∃ ao n c, v = .slice ao n c) (h : DataW.Trod enc Try.prog w 0 (fun _ => true) true 31 v d p) :
    ∃ ao cap, ∃ l : List It, v = .slice ao l.length cap ∧ (ao = none → l = [] ∧ cap = 0) ∧ ItAt w ao l ∧ l.length ≤ 9223372036854775807 := by
  obtain ⟨ao, n, c, rfl⟩ := hv
  obtain ⟨fuel, hf⟩ := h
  rcases open_slice Try.underlying31 hf with h0 | ⟨a, len, cap, m, n', D, Pl, hcs, -, hl, hm, hmm, -, hi⟩
  · have hcs := h0.1
    simp [Value.cells] at hcs
    obtain ⟨rfl, rfl, rfl⟩ := hcs
    exact ⟨none, 0, [], rfl, fun _ => ⟨rfl, rfl⟩, ItAt.nil, by simp⟩
  · simp [Value.cells] at hcs
    obtain ⟨rfl, rfl, rfl⟩ := hcs
    simp only [if_true] at hmm
    subst hmm
    have hC : Try.prog.cellsOf 23 = 4 := by kernel_rfl
    have hc1 : Try.prog.cellsOf 3 = 1 := by kernel_rfl
    have each : ∀ i, i < n → ∃ s : It, w.cell? (a.add (i * 4)) = some (.int .i64 s.a) ∧ w.cell? (a.add (i * 4 + 1)) = some (.int .i64 s.b) ∧ w.cell? (a.add (i * 4 + 2)) = some (.int .i64 s.c) ∧ w.cell? (a.add (i * 4 + 3)) = some (.int .i64 s.d) := by
      intro i hin
      obtain ⟨cs', hcell, ht⟩ := hi i (by omega)
      rw [hC] at hcell
      obtain ⟨_, hcl, hat⟩ := World.cells?_some hcell
      obtain ⟨xs, m, -, -, -, hl4, hx⟩ := DataW.trod_array Try.underlying23 ht
      rw [hc1] at hx
      have g : ∀ j, j < 4 → ∃ q : Int, w.cell? (a.add (i * 4 + j)) = some (.int .i64 q) := by
        intro j hj
        have h1 := hx j hj
        have hone : (cs'.drop (j * 1)).take 1 = [cs'[j]'(by omega)] := by
          rw [Nat.mul_one, List.drop_eq_getElem_cons (by omega)]; rfl
        rw [hone, List.getElem?_eq_getElem (by omega)] at h1
        obtain ⟨q, e, -, -⟩ := DataW.trod_int Try.underlying3 h1
        have hc := hat j hj
        rw [List.getElem?_eq_getElem (by omega)] at hc
        simp at e
        rw [e] at hc
        rw [← Go.Deep.add_add]
        exact ⟨q, hc⟩
      obtain ⟨q0, h0⟩ := g 0 (by omega)
      obtain ⟨q1, h1⟩ := g 1 (by omega)
      obtain ⟨q2, h2⟩ := g 2 (by omega)
      obtain ⟨q3, h3⟩ := g 3 (by omega)
      exact ⟨⟨q0, q1, q2, q3⟩, h0, h1, h2, h3⟩
    obtain ⟨l, hlen, hp⟩ := choose_list n each
    subst hlen
    refine ⟨some a, _, l, rfl, fun h => by simp at h, fun hpos => ?_, by unfold maxLen at hm; omega⟩
    obtain ⟨b, off, spot⟩ := a
    have hspot : spot = none := by
      cases spot with
      | none => rfl
      | some s =>
        have c0 := (hp 0 hpos).1
        simp [Addr.add, World.cell?] at c0
        split at c0 <;> simp at c0
    subst hspot
    have c0 := (hp 0 hpos).1
    refine ⟨b, off, rfl, ?_, fun i hi => ?_⟩
    · rw [add_none] at c0; exact World.block_lt_of_cell? w _ c0
    · have := hp i hi
      rw [add_none, add_none, add_none, add_none] at this
      simpa [Nat.add_assoc] using this
end Go.Proofs.Ytbkagefapmnojaa
