/- Contracts of NewReader and of the Reader's Raw. -/
import Derived.Test.YtbkagefapmnojaaRd
namespace Go.Proofs.Ytbkagefapmnojaa
open Go.RowKit

theorem newReader_any (ao : Option Addr) (cap : Nat) (bs : List UInt8) (w : World) (h0 : ao = none → bs.length = 0 ∧ cap = 0) (ha : BAt w ao bs) (hm : bs.length ≤ 140737488351232) :
    Calls Try.prog 26 #[.slice ao bs.length cap] w fun e w' => ∃ p g, e = .returned (.pointer (some ⟨p, 0, none⟩)) ∧ RdAt w' p g bs false ∧ Below w.heap.size w w' ∧ w.heap.size ≤ p ∧ w.heap.size ≤ g := by
  go_enter Try.func26, Try.ntmps26
  go_wp2_with fail
  refine (clone_any ao cap bs _ h0 ha hm).mono ?_
  rintro e w1 ⟨bo, c, rfl, ho, hb⟩
  go_wp2_with fail
  go_ret
  have hs := hb.size
  have hrd : ∃ g, RdAt (w1.alloc (.cells #[.slice bo bs.length c, .bool false] 60)) w1.heap.size g bs false ∧ w.heap.size ≤ g := by
    by_cases hp : 0 < bs.length
    · obtain ⟨g, e, hbg, hlt, hr⟩ := ho.row hp
      exact ⟨g, ⟨bo, c, heap_new _ _, ho.le.1, ho.le.2, ho.none, by omega, fun _ => ⟨0, e, by simp; omega, hr.below hlt ((Below.refl _ _).alloc (Nat.le_refl _) _)⟩⟩, hbg⟩
    · exact ⟨w1.heap.size + 1, ⟨bo, c, heap_new _ _, ho.le.1, ho.le.2, ho.none, by omega, fun h => absurd h hp⟩, by omega⟩
  obtain ⟨g, hg1, hg2⟩ := hrd
  exact ⟨w1.heap.size, g, rfl, hg1, hb.alloc hs _, hs, hg2⟩

theorem own_set {w : World} {base : Nat} {ao : Option Addr} {cap : Nat} {l : List UInt8} (h : OwnB w base ao cap l) (a : Addr) (v : Value) (ha : a.block < base) : OwnB (w.setCell a v) base ao cap l :=
  ownsRow_setCell_other h (fun e => by
    rcases h.2 with ⟨hv, -⟩ | ⟨g, c, cur, hv, hb, -⟩
    · simp only [Value.slice.injEq] at hv
      rw [hv.1] at e
      simp [Value.ownBlock] at e
    · simp only [Value.slice.injEq] at hv
      rw [hv.1] at e
      simp only [Value.ownBlock, Option.some.injEq] at e
      omega) v
/-- What is left after a take of n. -/
theorem rd_cut {w w1 : World} {p g n cap : Nat} {rest : List UInt8} {bad : Bool} {ao ao' : Option Addr} {cap' : Nat} (hw : w1.heap[p]? = some (.cells #[.slice ao rest.length cap, .bool bad] 60 (0, 0))) (hn : n ≤ rest.length) (hlc : rest.length ≤ cap) (hcm : cap ≤ 9223372036854775807) (hgp : g ≠ p)
    (hrow : 0 < rest.length → ∃ off, ao = some ⟨g, off, none⟩ ∧ g < w.heap.size ∧ BRow w g off rest) (hb : Below w.heap.size w w1) (hc : cap' = cap - n) (h0 : ao' = none → rest.length - n = 0 ∧ cap' = 0) (hao : n < rest.length → ao' = ao.map fun x => x.add n) :
    RdAt (w1.setCell ⟨p, 0, none⟩ (.slice ao' (rest.length - n) cap')) p g (rest.drop n) bad := by
  have hln : rest.length - n = (rest.drop n).length := by rw [List.length_drop]
  rw [hln]
  refine ⟨ao', cap', set_two_fst hw, by rw [List.length_drop]; omega, by omega, fun h => by rw [List.length_drop]; exact h0 h, hgp, fun hp => ?_⟩
  rw [List.length_drop] at hp
  obtain ⟨off, e, hlt, hr⟩ := hrow (by omega)
  refine ⟨off + n, by rw [hao (by omega), e]; simp only [Option.map_some, add_none], by simp only [World.setCell, Array.size_modify]; exact Nat.lt_of_lt_of_le hlt hb.size, fun i hi => ?_⟩
  rw [World.cell?_of_block (w := w1) (Below.heap_setCell _ _ _ _ hgp)]
  rw [List.length_drop] at hi
  have := (hr.below hlt hb) (n + i) (by omega)
  rw [List.getElem_drop, Nat.add_assoc]
  exact this
end Go.Proofs.Ytbkagefapmnojaa
