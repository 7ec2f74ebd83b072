/- Messages that came in, opened. -/
import Derived.Test.YtcboflabjdiadaaFits
import Derived.Test.YtcboflabjdiadaaNetSend
namespace Go.Proofs.Ytcboflabjdiadaa
open Go.ChangeShapes Go.WideShapes Go.Deep Go.RowKit

section
variable {H : Type} {enc : TypeId × Value → H} {W : World}
theorem trod_msgs {fuel base : Nat} {cs : List Value} {x : DataW H × List MemPlace} (h : DataW.trod enc Try.prog W base (fun _ => true) true fuel 22 cs = some x) (hf : Fits x.1 22) :
    ∃ ao M cap, cs = [.slice ao (M : List Ms).length cap] ∧ M.length ≤ cap ∧ cap ≤ maxLen ∧ (ao = none → M.length = 0 ∧ cap = 0) ∧ MsAt W ao M ∧ M.length * 40 ≤ 140737488351232 := by
  rcases open_slice_fields Try.underlying22 Try.underlying35 (by kernel_rfl) (by kernel_rfl) h with ⟨hcs, hx⟩ | ⟨a, len, cap, m, D, Pl, hcs, hb, hl, hm, hmm, hx, hi⟩
  · exact ⟨none, [], 0, hcs, by simp, by unfold maxLen; omega, fun _ => ⟨rfl, rfl⟩, fun h => absurd h (by simp), by simp⟩
  · simp only [if_true] at hmm
    subst hmm
    rw [hx] at hf
    have hfe := fits_elem hf Try.underlying22
    have hb40 : Try.prog.bytesOf 35 = 40 := by kernel_rfl
    obtain ⟨hfe1, hfe2⟩ := hfe
    rw [hb40] at hfe2
    simp only [List.length_map, List.length_range] at hfe2
    obtain ⟨L, hL, hR⟩ : ∃ L : List Ms, L.length = len ∧ ∀ i, (hi : i < L.length) → W.cell? (a.add (i * 3)) = some (.int .i64 L[i].f) ∧ W.cell? (a.add (i * 3 + 1)) = some (.int .i64 L[i].t) ∧ W.cell? (a.add (i * 3 + 2)) = some (.slice L[i].ao L[i].bs.length L[i].cap) ∧ (L[i].ao = none → L[i].bs.length = 0 ∧ L[i].cap = 0) ∧ BAt W L[i].ao L[i].bs ∧ L[i].bs.length ≤ 140737488351232 ∧ L[i].sp = false := by
      refine choose_list (P := fun i (r : Ms) => W.cell? (a.add (i * 3)) = some (.int .i64 r.f) ∧ W.cell? (a.add (i * 3 + 1)) = some (.int .i64 r.t) ∧ W.cell? (a.add (i * 3 + 2)) = some (.slice r.ao r.bs.length r.cap) ∧ (r.ao = none → r.bs.length = 0 ∧ r.cap = 0) ∧ BAt W r.ao r.bs ∧ r.bs.length ≤ 140737488351232 ∧ r.sp = false) len fun i hil => ?_
      obtain ⟨ys, n, hD, hP, hyl, hj⟩ := hi i (by omega)
      have hfD : Fits (D i) 35 := hfe1 _ (List.mem_map.2 ⟨i, by simpa using hil, rfl⟩)
      rw [hD] at hfD
      obtain ⟨v0, y0, c0, e0, t0⟩ := hj 0 _ rfl
      obtain ⟨v1, y1, c1, e1, t1⟩ := hj 1 _ rfl
      obtain ⟨v2, y2, c2, e2, t2⟩ := hj 2 _ rfl
      have f2 := fits_part hfD Try.underlying35 (j := 2) rfl (d := y2.1) (by rw [List.getElem?_map, e2]; rfl)
      obtain ⟨f, hf0, -, -⟩ := DataW.trod_int Try.underlying3 t0
      obtain ⟨t, ht0, -, -⟩ := DataW.trod_int Try.underlying3 t1
      obtain ⟨ao, l, cp, hcs1, h1, h2, h3, h4, h5⟩ := fits_bytes t2 f2
      simp only [List.cons.injEq, and_true] at hf0 ht0 hcs1
      subst hf0 ht0 hcs1
      exact ⟨⟨f, t, ao, cp, l, false⟩, c0, c1, c2, h3, h4, h5, rfl⟩
    unfold reachBytes at hfe2
    refine ⟨some a, L, _, by rw [hL]; exact hcs, by omega, hm, fun h => (nomatch h), fun hp => ?_, by omega⟩
    obtain ⟨ab, ao, spot⟩ := a
    have h0 := (hR 0 hp).1
    have hspot : spot = none := by simpa [Addr.add] using World.cell?_spot h0
    subst hspot
    rw [add_none] at h0
    refine ⟨ab, ao, rfl, lt_of_cellB h0, fun i hi => ?_⟩
    obtain ⟨g1, g2, g3, g4⟩ := hR i hi
    rw [add_none] at g1 g2 g3
    exact ⟨g1, by rw [Nat.add_assoc]; exact g2, by rw [Nat.add_assoc]; exact g3, g4⟩
theorem open_msgs {v : Value} {d : DataW H} {p : List MemPlace} {b : Nat} (hv : Value.okWide Try.prog W .any b 22 v) (h : DataW.Trod enc Try.prog W 0 (fun _ => true) true 22 v d p) (hf : Fits d 22) :
    ∃ ao M cap, v = .slice ao (M : List Ms).length cap ∧ M.length ≤ cap ∧ cap ≤ maxLen ∧ (ao = none → M.length = 0 ∧ cap = 0) ∧ MsAt W ao M ∧ M.length * 40 ≤ 140737488351232 := by
  obtain ⟨a1, len, c, rfl⟩ := okWide_slice Try.underlying22 hv
  obtain ⟨fuel, hf2⟩ := h
  obtain ⟨ao, M, cap, hcs, r⟩ := trod_msgs hf2 hf
  exact ⟨ao, M, cap, by simpa [Value.cells] using hcs, r⟩
end
end Go.Proofs.Ytcboflabjdiadaa
