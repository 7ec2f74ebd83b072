/- The contract of the Reader's Bytes. -/
import Derived.Test.YtbkagefapmnojaaRdNum
namespace Go.Proofs.Ytbkagefapmnojaa
open Go.RowKit

/-- A row taken: the row and what is left behind it. -/
def bytesOf (l : List UInt8) : Option (List UInt8 × List UInt8) := match numOf l with
  | none => none
  | some (n, r) => if n ≤ r.length then some (r.take n, r.drop n) else none
/-- What a reader answers and becomes. -/
def tookOf (rest : List UInt8) (bad : Bool) : List UInt8 × List UInt8 × Bool := match bytesOf rest with
  | some (x, r) => (x, r, bad)
  | none => ([], [], true)
theorem own_nothing (w : World) (base : Nat) : OwnB w base none 0 [] := ⟨rfl, .inl ⟨rfl, rfl⟩⟩
theorem RdAt.lt {w : World} {p g : Nat} {rest : List UInt8} {bad : Bool} (h : RdAt w p g rest bad) : p < w.heap.size := by
  obtain ⟨ao, cap, h1, -⟩ := h
  exact lt_of_block h1
theorem numOf_left {l : List UInt8} {n : Nat} {r : List UInt8} (h : numOf l = some (n, r)) : r.length ≤ l.length ∧ n ≤ 4611686018427387904 := by
  obtain ⟨h1, k, -, -, e⟩ := numR_left l 0 0 n r h
  exact ⟨by rw [e, List.length_drop]; omega, h1⟩

end Go.Proofs.Ytbkagefapmnojaa
