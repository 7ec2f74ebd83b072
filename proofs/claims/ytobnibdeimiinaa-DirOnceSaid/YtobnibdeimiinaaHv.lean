/- Rows of changes that came in; the laws' heavy. -/
import Derived.Test.YtobnibdeimiinaaDSt
import Derived.Test.YtobnibdeimiinaaBs
namespace Go.Proofs.Ytobnibdeimiinaa
open Go.RowKit

/-- Changes lie behind a slice's address. -/
def ChAt (w : World) (ao : Option Addr) (l : List Ch) : Prop := 0 < l.length → ∃ b off, ao = some ⟨b, off, none⟩ ∧ b < w.heap.size ∧ ∀ i, (hi : i < l.length) → w.cell? ⟨b, off + i * 5, none⟩ = some (.int .i64 (l[i]).kind) ∧ w.cell? ⟨b, off + i * 5 + 1, none⟩ = some (.int .i64 (l[i]).zone) ∧ w.cell? ⟨b, off + i * 5 + 2, none⟩ = some (.int .i64 (l[i]).epoch) ∧ w.cell? ⟨b, off + i * 5 + 3, none⟩ = some (.int .i64 (l[i]).tt) ∧ w.cell? ⟨b, off + i * 5 + 4, none⟩ = some (.string (l[i]).key)
theorem ChAt.grow {w w' : World} {ao : Option Addr} {l : List Ch} (h : ChAt w ao l) (b : Below w.heap.size w w') : ChAt w' ao l := fun hp => by
  obtain ⟨x, off, e, hx, hr⟩ := h hp
  refine ⟨x, off, e, Nat.lt_of_lt_of_le hx b.size, fun i hi => ?_⟩
  obtain ⟨h0, h1, h2, h3, h4⟩ := hr i hi
  obtain ⟨xc, -⟩ := bcell b
  exact ⟨(xc _ _ hx).trans h0, (xc _ _ hx).trans h1, (xc _ _ hx).trans h2, (xc _ _ hx).trans h3, (xc _ _ hx).trans h4⟩
theorem lt_of_cellC {w : World} {a : Addr} {v : Value} (h : w.cell? a = some v) : a.block < w.heap.size := by
  rcases Nat.lt_or_ge a.block w.heap.size with h1 | h1
  · exact h1
  · simp [World.cell?, Array.getElem?_eq_none h1] at h
def heavyC (l : List Ch) : Bool := (l.take 100).any fun c => decide ((60 : Int) < c.key.size)
theorem heavyC_hit {l : List Ch} {k : Nat} (h : k < l.length) (h1 : k < 100) (hb : (60 : Int) < l[k].key.size) : heavyC l = true := by
  unfold heavyC
  rw [List.any_eq_true]
  refine ⟨l[k], ?_, by simpa using hb⟩
  rw [List.mem_iff_getElem]
  exact ⟨k, by rw [List.length_take]; omega, by simp⟩
theorem heavyC_end {l : List Ch} (h : ∀ j (hj : j < l.length), j < 100 → ¬ (60 : Int) < l[j].key.size) : heavyC l = false := by
  unfold heavyC
  rw [List.any_eq_false]
  intro c hc
  obtain ⟨j, hj, rfl⟩ := List.mem_iff_getElem.1 hc
  rw [List.length_take] at hj
  have := h j (by omega) (by omega)
  simpa using this
set_option maxRecDepth 20000 in
set_option maxHeartbeats 2000000 in
theorem heavyC_any (ao : Option Addr) (lc : Nat) (l : List Ch) (w : World) (h : ChAt w ao l) (hm : l.length ≤ 9223372036854775807) :
    Calls Try.prog 12 #[.slice ao l.length lc] w fun e w' => e = .returned (.bool (heavyC l)) ∧ Below w.heap.size w w' := by
  have H := Lib.hid h
  clear h
  go_enter Try.func12, Try.ntmps12
  go_wp2_with fail
  go_loopw [3] (fun s wr => ∃ i : Nat, s = .int .i64 i ∧ i ≤ l.length ∧ i ≤ 100 ∧ Hid (∀ j (hj : j < l.length), j < i → ¬ (60 : Int) < l[j].key.size) ∧ Below w.heap.size w wr) (fun s _ => l.length - (intOf s).toNat)
  case atStart => exact ⟨0, rfl, by omega, by omega, fun j _ hj => by omega, Below.refl _ _⟩
  case round =>
    obtain ⟨i, rfl, hi, hi2, Hne, wr_b⟩ := hrel
    by_cases hlt : i < l.length
    · by_cases h100 : i < 100
      · obtain ⟨b, off, rfl, hb, hr⟩ := H.out (by omega)
        obtain ⟨x, hx⟩ : ∃ x, x = l[i] := ⟨_, rfl⟩
        have d4 := (wr_b.cell (p := ⟨b, _, none⟩) hb).trans (hr i hlt).2.2.2.2
        rw [← hx] at d4
        have Hx := Lib.hid hx
        have e0 : decide ((i : Int) < 100) = true := by rw [decide_eq_true_eq]; omega
        clear hr hx
        by_cases hk : (60 : Int) < x.key.size
        · have e1 : decide ((60 : Int) < x.key.size) = true := by rw [decide_eq_true_eq]; exact hk
          have HR : Hid (heavyC l = true) := Lib.hid (heavyC_hit hlt h100 (by rw [← Hx.out]; exact hk))
          clear hk
          go_wp2_with fail
          go_ret
          exact ⟨by rw [HR.out]; rfl, wr_b⟩
        · have e1 : decide ((60 : Int) < x.key.size) = false := by rw [decide_eq_false_iff_not]; exact hk
          have Hk := Lib.hid hk
          clear hk
          go_wp2_with fail
          go_roundw
          case rel => exact ⟨i + 1, by go_num, by omega, by omega, fun j hj hji => by
            by_cases h : j = i
            · subst h; rw [← Hx.out]; exact Hk.out
            · exact Hne.out j hj (by omega), wr_b⟩
          case measure => simp [intOf]; omega
      · have e0 : decide ((i : Int) < 100) = false := by rw [decide_eq_false_iff_not]; omega
        have HR : Hid (heavyC l = false) := Lib.hid (heavyC_end (fun j hj h1 => Hne.out j hj (by omega)))
        go_wp2_with fail
        go_ret
        exact ⟨by rw [HR.out]; rfl, wr_b⟩
    · have HR : Hid (heavyC l = false) := Lib.hid (heavyC_end (fun j hj h1 => Hne.out j hj (by omega)))
      go_wp2_with fail
      go_ret
      exact ⟨by rw [HR.out]; rfl, wr_b⟩
section
open Go.ChangeShapes Go.WideShapes Go.Deep
set_option maxRecDepth 20000 in
theorem open_chs {H : Type} {enc : TypeId × Value → H} {W : World} {v : Value} {d : DataW H} {p : List MemPlace} (hv : ∃ ao n c, v = .slice ao n c) (h : DataW.Trod enc Try.prog W 0 (fun _ => true) true 22 v d p) :
    ∃ ao cap, ∃ l : List Ch, v = .slice ao l.length cap ∧ l.length ≤ 9223372036854775807 ∧ ChAt W ao l := by
  obtain ⟨ao, n, c, rfl⟩ := hv
  obtain ⟨fuel, hf⟩ := h
  rcases open_slice_fields Try.underlying22 Try.underlying34 (by kernel_rfl) (by kernel_rfl) hf with ⟨hcs, -⟩ | ⟨a, len, cap, m, D, Pl, hcs, -, hl, hm, hmm, -, hi⟩
  · simp [Value.cells] at hcs
    obtain ⟨rfl, rfl, rfl⟩ := hcs
    exact ⟨none, 0, [], rfl, by simp, fun h => absurd h (by simp)⟩
  · simp [Value.cells] at hcs
    obtain ⟨rfl, rfl, rfl⟩ := hcs
    simp only [if_true] at hmm
    subst hmm
    obtain ⟨L, hL, hR⟩ : ∃ L : List Ch, L.length = n ∧ ∀ i, (hi : i < L.length) → W.cell? (a.add (i * 5)) = some (.int .i64 L[i].kind) ∧ W.cell? (a.add (i * 5 + 1)) = some (.int .i64 L[i].zone) ∧ W.cell? (a.add (i * 5 + 2)) = some (.int .i64 L[i].epoch) ∧ W.cell? (a.add (i * 5 + 3)) = some (.int .i64 L[i].tt) ∧ W.cell? (a.add (i * 5 + 4)) = some (.string L[i].key) := by
      refine choose_list (P := fun i (r : Ch) => W.cell? (a.add (i * 5)) = some (.int .i64 r.kind) ∧ W.cell? (a.add (i * 5 + 1)) = some (.int .i64 r.zone) ∧ W.cell? (a.add (i * 5 + 2)) = some (.int .i64 r.epoch) ∧ W.cell? (a.add (i * 5 + 3)) = some (.int .i64 r.tt) ∧ W.cell? (a.add (i * 5 + 4)) = some (.string r.key)) n fun i hil => ?_
      obtain ⟨ys, m', -, -, -, hj⟩ := hi i (by omega)
      obtain ⟨v0, y0, c0, e0, t0⟩ := hj 0 _ rfl
      obtain ⟨v1, y1, c1, e1, t1⟩ := hj 1 _ rfl
      obtain ⟨v2, y2, c2, e2, t2⟩ := hj 2 _ rfl
      obtain ⟨v3, y3, c3, e3, t3⟩ := hj 3 _ rfl
      obtain ⟨v4, y4, c4, e4, t4⟩ := hj 4 _ rfl
      obtain ⟨n0, q0, -⟩ := DataW.trod_int Try.underlying3 t0
      obtain ⟨n1, q1, -⟩ := DataW.trod_int Try.underlying3 t1
      obtain ⟨n2, q2, -⟩ := DataW.trod_int Try.underlying3 t2
      obtain ⟨n3, q3, -⟩ := DataW.trod_int Try.underlying3 t3
      obtain ⟨s4, q4, -⟩ := DataW.trod_string Try.underlying9 t4
      simp only [List.cons.injEq, and_true] at q0 q1 q2 q3 q4
      subst q0 q1 q2 q3 q4
      exact ⟨⟨n0, n1, n2, n3, s4⟩, c0, c1, c2, c3, c4⟩
    unfold maxLen at hm
    refine ⟨some a, _, L, by rw [hL], by omega, fun hp => ?_⟩
    obtain ⟨ab, ao, spot⟩ := a
    have h0 := (hR 0 hp).1
    have hspot : spot = none := by simpa [Addr.add] using World.cell?_spot h0
    subst hspot
    rw [add_none] at h0
    refine ⟨ab, ao, rfl, lt_of_cellC h0, fun i hi => ?_⟩
    obtain ⟨g0, g1, g2, g3, g4⟩ := hR i hi
    rw [add_none] at g0 g1 g2 g3 g4
    exact ⟨g0, by rw [Nat.add_assoc]; exact g1, by rw [Nat.add_assoc]; exact g2, by rw [Nat.add_assoc]; exact g3, by rw [Nat.add_assoc]; exact g4⟩
end
end Go.Proofs.Ytobnibdeimiinaa
