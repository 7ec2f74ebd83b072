/- Contracts of the laws' helpers: roomy, stands, spoil. -/
import Derived.Test.YtobnibdeimiinaaBw
import Derived.Test.YtobnibdeimiinaaFoot
import Derived.Lib.SlBytesConst
namespace Go.Proofs.Ytobnibdeimiinaa
open Go.RowKit

theorem bytV_set (l : List UInt8) (i : Nat) (c : UInt8) : (bytV l).set i (.int .u8 (c.toNat : Int)) = bytV (l.set i c) := by simp [bytV, List.map_set]
theorem own_stored {w : World} {base g cap : Nat} {l : List UInt8} (h : OwnB w base (some ⟨g, 0, none⟩) cap l) (j : Nat) (c : UInt8) : OwnB (w.setCell ⟨g, j, none⟩ (.int .u8 (c.toNat : Int))) base (some ⟨g, 0, none⟩) cap (l.set j c) := by
  have := (World.ownsRow.stored h j (.int .u8 (c.toNat : Int))).1
  unfold OwnB
  rw [bytV_set] at this
  rw [List.length_set]
  exact this
theorem own_form {w : World} {base cap : Nat} {ao : Option Addr} {l : List UInt8} (h : OwnB w base ao cap l) (hp : 0 < l.length) : ∃ g, ao = some ⟨g, 0, none⟩ ∧ base ≤ g ∧ g < w.heap.size := by
  rcases h.2 with ⟨hv, h0⟩ | ⟨g, c, cur, hv, hg, hh, -⟩
  · omega
  · simp only [Value.slice.injEq] at hv
    exact ⟨g, hv.1, hg, (Array.getElem?_eq_some_iff.1 hh).1⟩
/-- A shorter slice of the same bytes. -/
theorem own_short {w : World} {base cap g : Nat} {l : List UInt8} (h : OwnB w base (some ⟨g, 0, none⟩) cap l) (n : Nat) (hn : n ≤ l.length) : OwnB w base (some ⟨g, 0, none⟩) cap (l.take n) := by
  have hl : (l.take n).length = n := by rw [List.length_take, Nat.min_eq_left hn]
  unfold OwnB
  rw [hl]
  refine ⟨by rw [bytV_length, hl, Nat.mul_one], ?_⟩
  rcases h.2 with ⟨hv, h0⟩ | ⟨g', c, cur, hv, hg, hh, h1, h2, h3, h4⟩
  · simp at hv
  · simp only [Value.slice.injEq, Option.some.injEq, Addr.mk.injEq, and_true, true_and] at hv
    obtain ⟨rfl, rfl⟩ := hv
    refine .inr ⟨g, cap, cur, rfl, hg, hh, by omega, h2, h3, ?_⟩
    have : (cur.toList.take (l.length * 1)).take (n * 1) = (bytV l).take (n * 1) := by rw [h4]
    rw [List.take_take, Nat.min_eq_left (by omega)] at this
    rw [this]
    simp [bytV, List.map_take]

theorem own_lit (w : World) (l : List UInt8) (hm : l.length ≤ 140737488351232) : OwnB (w.alloc (.cells (bytV l).toArray 5)) w.heap.size (some ⟨w.heap.size, 0, none⟩) l.length l :=
  World.ownsRow_lit w (bytV l).toArray l.length (Nat.le_refl _) (by unfold maxLen; omega) (by simp [bytV_length])

theorem bat_lit (w : World) (n : Nat) (hn : n = w.heap.size) (l : List UInt8) (t : TypeId) (fr : Nat × Nat) : BAt (w.alloc (.cells (bytV l).toArray t fr)) (some ⟨n, 0, none⟩) l := by
  subst hn
  refine fun _ => ⟨w.heap.size, 0, rfl, by simp, fun i hi => ?_⟩
  have : (w.alloc (.cells (bytV l).toArray t fr)).heap[w.heap.size]? = some (.cells (bytV l).toArray t fr) := heap_new w _
  rw [Nat.zero_add]
  simp only [World.cell?, this]
  simpa using bytV_get l i hi
/-- '[]byte("..")' of a constant. -/
theorem const_bytes (w : World) (C : Array Value) (n c : Nat) : (convert 58 58 (.slice (some ⟨w.heap.size, 0, none⟩) n c)).run Try.prog (w.alloc (.cells C 5)) = .ok (.slice (some ⟨w.heap.size, 0, none⟩) n c) (w.alloc (.cells C 5 (C.size, C.size + 1))) :=
  Lib.run_convert_bytes_const w 58 5 C n c Try.underlying58 Try.underlying5

end Go.Proofs.Ytobnibdeimiinaa
