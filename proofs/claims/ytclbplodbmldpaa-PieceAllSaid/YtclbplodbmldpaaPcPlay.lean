/- Plain: how far both have come. -/
import Derived.Test.YtclbplodbmldpaaPcLate
namespace Go.Proofs.Ytclbplodbmldpaa

/-- How many bytes have come behind a piece from x on. -/
def nextM (N m x : Nat) : Nat := if x = m then min (m + 512) N else m
theorem take_piece (p : List UInt8) (m x : Nat) (hm : m ≤ p.length) : takeOf (p.take m) p.length x (pieceOf p x) = p.take (nextM p.length m x) := by
  have hl : (p.take m).length = m := by rw [List.length_take]; omega
  by_cases hx : x = m
  · subst hx
    rw [take_yes (by rw [hl]) (by rw [hl, pieceOf_length]; omega)]
    unfold nextM pieceOf
    rw [if_pos rfl, ← List.take_add]
    rcases Nat.le_total (x + 512) p.length with h | h
    · rw [Nat.min_eq_left h]
    · rw [Nat.min_eq_right h, List.take_of_length_le h, List.take_length]
  · rw [take_no (by rw [hl]; rintro ⟨h, -⟩; omega)]
    unfold nextM
    rw [if_neg hx]
theorem nextM_le {N m x : Nat} (h : m ≤ N) : nextM N m x ≤ N ∧ m ≤ nextM N m x := by unfold nextM; split <;> omega
theorem ack_told {p : List UInt8} {t m : Nat} (ht : t ≤ m) (hm : m ≤ p.length) : ackOf p t (m : Int) = m := by
  by_cases h : t < m
  · have := (ack_yes (l := p) (k := t) (n := (m : Int)) (by omega) (by omega)).2
    omega
  · have := (ack_no (l := p) (k := t) (n := (m : Int)) (by omega)).2
    omega
theorem take_len (p : List UInt8) (m : Nat) (hm : m ≤ p.length) : (p.take m).length = m := by rw [List.length_take]; omega
end Go.Proofs.Ytclbplodbmldpaa
