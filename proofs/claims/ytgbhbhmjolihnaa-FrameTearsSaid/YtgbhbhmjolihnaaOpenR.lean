/- Rows of bytes that came in, opened. -/
import Derived.Test.YtgbhbhmjolihnaaOpenB
import Derived.Test.YtgbhbhmjolihnaaRws
namespace Go.Proofs.Ytgbhbhmjolihnaa
open Go.ChangeShapes Go.WideShapes Go.Deep Go.RowKit

theorem open_rows {H : Type} {enc : TypeId × Value → H} {W : World} {v : Value} {d : DataW H} {p : List MemPlace} {b : Nat} (hv : Value.okWide Try.prog W .any b 30 v) (h : DataW.Trod enc Try.prog W 0 (fun _ => true) true 30 v d p) :
    ∃ ao L cap, v = .slice ao (L : List RowR).length cap ∧ L.length ≤ cap ∧ cap ≤ 9223372036854775807 ∧ (ao = none → L.length = 0 ∧ cap = 0) ∧ RsAt W (fun x => x < W.heap.size) ao L := by
  obtain ⟨a1, len, c, rfl⟩ := okWide_slice Try.underlying30 hv
  obtain ⟨fuel, hf⟩ := h
  rcases open_slice Try.underlying30 hf with ⟨hcs, hx⟩ | ⟨a, len', cap, m, n, D, Pl, hcs, hb, hl, hm, hmm, hx, hi⟩
  · simp [Value.cells] at hcs
    obtain ⟨rfl, rfl, rfl⟩ := hcs
    exact ⟨none, [], 0, rfl, by simp, by simp, fun _ => ⟨rfl, rfl⟩, fun h => absurd h (by simp)⟩
  · simp [Value.cells] at hcs
    obtain ⟨rfl, rfl, rfl⟩ := hcs
    simp only [if_true] at hmm
    subst hmm
    have hC : Try.prog.cellsOf 22 = 1 := by kernel_rfl
    rw [hC] at hi
    obtain ⟨L, hL, hR⟩ : ∃ L : List RowR, L.length = len ∧ ∀ i, (hi : i < L.length) → W.cell? (a.add i) = some (.slice L[i].ao L[i].bs.length L[i].cap) ∧ L[i].bs.length ≤ L[i].cap ∧ L[i].cap ≤ 9223372036854775807 ∧ (L[i].ao = none → L[i].bs.length = 0 ∧ L[i].cap = 0) ∧ BAt W L[i].ao L[i].bs := by
      refine choose_list (P := fun i (r : RowR) => W.cell? (a.add i) = some (.slice r.ao r.bs.length r.cap) ∧ r.bs.length ≤ r.cap ∧ r.cap ≤ 9223372036854775807 ∧ (r.ao = none → r.bs.length = 0 ∧ r.cap = 0) ∧ BAt W r.ao r.bs) len fun i hil => ?_
      obtain ⟨cs', hc, ht⟩ := hi i (by omega)
      obtain ⟨ao, l, cp, hcs1, h1, h2, h3, h4⟩ := trod_bytes ht
      obtain ⟨_, hcl, hat⟩ := World.cells?_some hc
      have h5 := hat 0 (by omega)
      subst hcs1
      rw [Nat.mul_one] at h5
      simp only [List.getElem?_cons_zero] at h5
      refine ⟨(⟨ao, cp, l⟩ : RowR), ?_, h1, by unfold maxLen at h2; exact h2, h3, h4⟩
      have h6 : (a.add i).add 0 = a.add i := by simp [Addr.add]
      rw [h6] at h5
      exact h5
    refine ⟨some a, L, _, by rw [hL], by omega, by unfold maxLen at hm; omega, fun h => (nomatch h), fun hp => ?_⟩
    obtain ⟨ab, ao, spot⟩ := a
    have h0 := (hR 0 hp).1
    have hspot : spot = none := by simpa [Addr.add] using World.cell?_spot h0
    subst hspot
    rw [add_none] at h0
    refine ⟨ab, ao, rfl, lt_of_cellB h0, lt_of_cellB h0, fun i hi => ?_⟩
    obtain ⟨g1, g3, g4, g5, g6⟩ := hR i hi
    rw [add_none] at g1
    exact ⟨g1, g3, g4, g5, g6.in⟩
end Go.Proofs.Ytgbhbhmjolihnaa
