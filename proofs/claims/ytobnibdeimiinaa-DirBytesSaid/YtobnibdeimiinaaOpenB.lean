/- Bytes, ints and rows of bytes that came in, opened. -/
import Derived.Test.YtobnibdeimiinaaBs
import Derived.ChangeSlices
namespace Go.Proofs.Ytobnibdeimiinaa
open Go.ChangeShapes Go.WideShapes Go.Deep Go.RowKit

theorem lt_of_cellB {w : World} {a : Addr} {v : Value} (h : w.cell? a = some v) : a.block < w.heap.size := by
  rcases Nat.lt_or_ge a.block w.heap.size with h1 | h1
  · exact h1
  · simp [World.cell?, Array.getElem?_eq_none h1] at h
theorem wf_u8 {n : Int} (h : (Lit.int IntKind.u8 n).wf = true) : 0 ≤ n ∧ n < 256 := by
  have := range_u8 (zs := [n]) (by simpa using h) 0
  simp at this
  omega
section
variable {H : Type} {enc : TypeId × Value → H} {W : World}
set_option maxRecDepth 20000 in
/-- A slice of bytes: what its one cell holds. -/
theorem trod_bytes {fuel base : Nat} {cs : List Value} {x : DataW H × List MemPlace} (h : DataW.trod enc Try.prog W base (fun _ => true) true fuel 58 cs = some x) :
    ∃ ao l cap, cs = [.slice ao (l : List UInt8).length cap] ∧ l.length ≤ cap ∧ cap ≤ maxLen ∧ (ao = none → l.length = 0 ∧ cap = 0) ∧ BAt W ao l := by
  rcases open_ints Try.underlying58 Try.underlying5 (by kernel_rfl : Try.prog.cellsOf 5 = 1) h with ⟨hcs, hx⟩ | ⟨a, len, cap, zs, hcs, _, hl, hm, hz, hx, hcell, hwz⟩
  · exact ⟨none, [], 0, hcs, Nat.le_refl _, Nat.zero_le _, fun _ => ⟨rfl, rfl⟩, BAt.nil⟩
  · simp only [if_true] at hz
    have hlen : ((zs.take len).map fun n => UInt8.ofNat n.toNat).length = len := by simp; omega
    refine ⟨some a, (zs.take len).map fun n => UInt8.ofNat n.toNat, cap, by rw [hlen]; exact hcs, by omega, hm, fun h => (nomatch h), fun hp => ?_⟩
    rw [hlen] at hp
    obtain ⟨ab, ao, spot⟩ := a
    have hspot : spot = none := by simpa [Addr.add] using World.cell?_spot (hcell 0 (by omega))
    subst hspot
    have h0 := hcell 0 (by omega)
    refine ⟨ab, ao, rfl, ?_, fun i hi => ?_⟩
    · rw [add_none] at h0
      exact lt_of_cellB h0
    · rw [hlen] at hi
      have hci := hcell i (by omega)
      rw [add_none] at hci
      rw [hci]
      have e : zs.getD i 0 = zs[i]'(by omega) := by simp [List.getD, List.getElem?_eq_getElem (show i < zs.length by omega)]
      have hb := wf_u8 (hwz _ (List.getElem_mem (show i < zs.length by omega)))
      simp only [e, List.getElem_map, List.getElem_take]
      congr 2
      simp only [UInt8.toNat_ofNat']
      omega
set_option maxRecDepth 20000 in
/-- A slice of ints. -/
theorem trod_ints {fuel base : Nat} {cs : List Value} {x : DataW H × List MemPlace} (h : DataW.trod enc Try.prog W base (fun _ => true) true fuel 43 cs = some x) :
    ∃ ao l cap, cs = [.slice ao (l : List Int).length cap] ∧ l.length ≤ cap ∧ cap ≤ maxLen ∧ (0 < l.length → ∃ b off, ao = some ⟨b, off, none⟩ ∧ b < W.heap.size ∧ ∀ i, (hi : i < l.length) → W.cell? ⟨b, off + i, none⟩ = some (.int .i64 l[i])) := by
  rcases open_ints Try.underlying43 Try.underlying3 (by kernel_rfl : Try.prog.cellsOf 3 = 1) h with ⟨hcs, hx⟩ | ⟨a, len, cap, zs, hcs, _, hl, hm, hz, hx, hcell, hwz⟩
  · exact ⟨none, [], 0, hcs, Nat.le_refl _, Nat.zero_le _, fun h => absurd h (by simp)⟩
  · simp only [if_true] at hz
    have hlen : (zs.take len).length = len := by simp; omega
    refine ⟨some a, zs.take len, cap, by rw [hlen]; exact hcs, by omega, hm, fun hp => ?_⟩
    rw [hlen] at hp
    obtain ⟨ab, ao, spot⟩ := a
    have hspot : spot = none := by simpa [Addr.add] using World.cell?_spot (hcell 0 (by omega))
    subst hspot
    have h0 := hcell 0 (by omega)
    refine ⟨ab, ao, rfl, ?_, fun i hi => ?_⟩
    · rw [add_none] at h0
      exact lt_of_cellB h0
    · rw [hlen] at hi
      have hci := hcell i (by omega)
      rw [add_none] at hci
      rw [hci]
      have e : zs.getD i 0 = zs[i]'(by omega) := by simp [List.getD, List.getElem?_eq_getElem (show i < zs.length by omega)]
      simp only [e, List.getElem_take]
end
set_option maxRecDepth 20000 in
theorem open_bytes {H : Type} {enc : TypeId × Value → H} {W : World} {v : Value} {d : DataW H} {p : List MemPlace} {b : Nat} (hv : Value.okWide Try.prog W .any b 58 v) (h : DataW.Trod enc Try.prog W 0 (fun _ => true) true 58 v d p) :
    ∃ ao l cap, v = .slice ao (l : List UInt8).length cap ∧ l.length ≤ cap ∧ cap ≤ maxLen ∧ (ao = none → l.length = 0 ∧ cap = 0) ∧ BAt W ao l := by
  obtain ⟨a1, len, c, rfl⟩ := okWide_slice Try.underlying58 hv
  obtain ⟨fuel, hf⟩ := h
  obtain ⟨ao, l, cap, hcs, r⟩ := trod_bytes hf
  exact ⟨ao, l, cap, by simpa [Value.cells] using hcs, r⟩
set_option maxRecDepth 20000 in
theorem open_intsB {H : Type} {enc : TypeId × Value → H} {W : World} {v : Value} {d : DataW H} {p : List MemPlace} {b : Nat} (hv : Value.okWide Try.prog W .any b 43 v) (h : DataW.Trod enc Try.prog W 0 (fun _ => true) true 43 v d p) :
    ∃ ao l cap, v = .slice ao (l : List Int).length cap ∧ l.length ≤ cap ∧ cap ≤ maxLen ∧ (0 < l.length → ∃ b off, ao = some ⟨b, off, none⟩ ∧ b < W.heap.size ∧ ∀ i, (hi : i < l.length) → W.cell? ⟨b, off + i, none⟩ = some (.int .i64 l[i])) := by
  obtain ⟨a1, len, c, rfl⟩ := okWide_slice Try.underlying43 hv
  obtain ⟨fuel, hf⟩ := h
  obtain ⟨ao, l, cap, hcs, r⟩ := trod_ints hf
  exact ⟨ao, l, cap, by simpa [Value.cells] using hcs, r⟩
end Go.Proofs.Ytobnibdeimiinaa
