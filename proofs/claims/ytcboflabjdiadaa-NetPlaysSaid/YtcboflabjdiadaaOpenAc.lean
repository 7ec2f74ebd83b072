/- Acts that came in, opened. -/
import Derived.Test.YtcboflabjdiadaaOpenMs
import Derived.Test.YtcboflabjdiadaaHeavyA
namespace Go.Proofs.Ytcboflabjdiadaa
open Go.ChangeShapes Go.WideShapes Go.Deep Go.RowKit

section
variable {H : Type} {enc : TypeId × Value → H} {W : World}
theorem trod_acts {fuel base : Nat} {cs : List Value} {x : DataW H × List MemPlace} (h : DataW.trod enc Try.prog W base (fun _ => true) true fuel 27 cs = some x) (hf : Fits x.1 27) :
    ∃ ao M cap, cs = [.slice ao (M : List Ac).length cap] ∧ M.length ≤ cap ∧ cap ≤ maxLen ∧ (ao = none → M.length = 0 ∧ cap = 0) ∧ AcsAt W ao M := by
  rcases open_slice_fields Try.underlying27 Try.underlying26 (by kernel_rfl) (by kernel_rfl) h with ⟨hcs, hx⟩ | ⟨a, len, cap, m, D, Pl, hcs, hb, hl, hm, hmm, hx, hi⟩
  · exact ⟨none, [], 0, hcs, by simp, by unfold maxLen; omega, fun _ => ⟨rfl, rfl⟩, fun h => absurd h (by simp)⟩
  · simp only [if_true] at hmm
    subst hmm
    rw [hx] at hf
    have hfe1 := (fits_elem hf Try.underlying27).1
    obtain ⟨L, hL, hR⟩ : ∃ L : List Ac, L.length = len ∧ ∀ i, (hi : i < L.length) → W.cell? (a.add (i * 5)) = some (.int .i64 L[i].k) ∧ W.cell? (a.add (i * 5 + 1)) = some (.int .i64 L[i].n) ∧ W.cell? (a.add (i * 5 + 2)) = some (.int .i64 L[i].m) ∧ W.cell? (a.add (i * 5 + 3)) = some (.int .u8 (L[i].y.toNat : Int)) ∧ W.cell? (a.add (i * 5 + 4)) = some (.slice L[i].mo L[i].ms.length L[i].mc) ∧ MsAt W L[i].mo L[i].ms ∧ L[i].ms.length * 40 ≤ 140737488351232 ∧ (L[i].mo = none → L[i].ms.length = 0 ∧ L[i].mc = 0) := by
      refine choose_list (P := fun i (r : Ac) => W.cell? (a.add (i * 5)) = some (.int .i64 r.k) ∧ W.cell? (a.add (i * 5 + 1)) = some (.int .i64 r.n) ∧ W.cell? (a.add (i * 5 + 2)) = some (.int .i64 r.m) ∧ W.cell? (a.add (i * 5 + 3)) = some (.int .u8 (r.y.toNat : Int)) ∧ W.cell? (a.add (i * 5 + 4)) = some (.slice r.mo r.ms.length r.mc) ∧ MsAt W r.mo r.ms ∧ r.ms.length * 40 ≤ 140737488351232 ∧ (r.mo = none → r.ms.length = 0 ∧ r.mc = 0)) len fun i hil => ?_
      obtain ⟨ys, n, hD, hP, hyl, hj⟩ := hi i (by omega)
      have hfD : Fits (D i) 26 := hfe1 _ (List.mem_map.2 ⟨i, by simpa using hil, rfl⟩)
      rw [hD] at hfD
      obtain ⟨v0, y0, c0, e0, t0⟩ := hj 0 _ rfl
      obtain ⟨v1, y1, c1, e1, t1⟩ := hj 1 _ rfl
      obtain ⟨v2, y2, c2, e2, t2⟩ := hj 2 _ rfl
      obtain ⟨v3, y3, c3, e3, t3⟩ := hj 3 _ rfl
      obtain ⟨v4, y4, c4, e4, t4⟩ := hj 4 _ rfl
      have f4 := fits_part hfD Try.underlying26 (j := 4) rfl (d := y4.1) (by rw [List.getElem?_map, e4]; rfl)
      obtain ⟨k, hk0, -, -⟩ := DataW.trod_int Try.underlying3 t0
      obtain ⟨nn, hn0, -, -⟩ := DataW.trod_int Try.underlying3 t1
      obtain ⟨mm, hm0, -, -⟩ := DataW.trod_int Try.underlying3 t2
      obtain ⟨yy, hy0, -, hyw⟩ := DataW.trod_int Try.underlying5 t3
      obtain ⟨ao, M, cp, hcs1, h1, h2, h3, h4, h5⟩ := trod_msgs t4 f4
      simp only [List.cons.injEq, and_true] at hk0 hn0 hm0 hy0 hcs1
      subst hk0 hn0 hm0 hy0 hcs1
      have hb8 := wf_u8 hyw
      have hyb : (((UInt8.ofNat yy.toNat).toNat : Nat) : Int) = yy := by
        rw [UInt8.toNat_ofNat']
        omega
      exact ⟨⟨k, nn, mm, UInt8.ofNat yy.toNat, ao, cp, M⟩, c0, c1, c2, by rw [hyb]; exact c3, c4, h4, h5, h3⟩
    refine ⟨some a, L, _, by rw [hL]; exact hcs, by omega, hm, fun h => (nomatch h), fun hp => ?_⟩
    obtain ⟨ab, ao, spot⟩ := a
    have h0 := (hR 0 hp).1
    have hspot : spot = none := by simpa [Addr.add] using World.cell?_spot h0
    subst hspot
    rw [add_none] at h0
    refine ⟨ab, ao, rfl, lt_of_cellB h0, fun i hi => ?_⟩
    obtain ⟨g1, g2, g3, g4, g5, g6, g7, g8⟩ := hR i hi
    rw [add_none] at g1 g2 g3 g4 g5
    exact ⟨g1, by rw [Nat.add_assoc]; exact g2, by rw [Nat.add_assoc]; exact g3, by rw [Nat.add_assoc]; exact g4, by rw [Nat.add_assoc]; exact g5, g6, g7, g8⟩
theorem open_acts {v : Value} {d : DataW H} {p : List MemPlace} {b : Nat} (hv : Value.okWide Try.prog W .any b 27 v) (h : DataW.Trod enc Try.prog W 0 (fun _ => true) true 27 v d p) (hf : Fits d 27) :
    ∃ ao M cap, v = .slice ao (M : List Ac).length cap ∧ M.length ≤ cap ∧ cap ≤ maxLen ∧ (ao = none → M.length = 0 ∧ cap = 0) ∧ AcsAt W ao M := by
  obtain ⟨a1, len, c, rfl⟩ := okWide_slice Try.underlying27 hv
  obtain ⟨fuel, hf2⟩ := h
  obtain ⟨ao, M, cap, hcs, r⟩ := trod_acts hf2 hf
  exact ⟨ao, M, cap, by simpa [Value.cells] using hcs, r⟩
end
end Go.Proofs.Ytcboflabjdiadaa
