/- A Net as a thing: messages in a row of its own; each message's bytes are a thing of their own. -/
import Derived.Test.YtcboflabjdiadaaPerm
import Derived.Test.YtcboflabjdiadaaHelp
namespace Go.Proofs.Ytcboflabjdiadaa
open Go.RowKit

/-- A message in memory. -/
structure Ms where
  f : Int
  t : Int
  ao : Option Addr
  cap : Nat
  bs : List UInt8
  sp : Bool
def msV (m : Ms) : List Value := [.int .i64 m.f, .int .i64 m.t, .slice m.ao m.bs.length m.cap, .bool m.sp]
def msR (l : List Ms) : List Value := l.flatMap msV
theorem msR_length (l : List Ms) : (msR l).length = l.length * 4 := by
  induction l with
  | nil => rfl
  | cons m r ih => simp only [msR, List.flatMap_cons, List.length_append, List.length_cons] at ih ⊢; rw [ih]; simp [msV]; omega
theorem msR_append (a b : List Ms) : msR (a ++ b) = msR a ++ msR b := by simp [msR]
theorem msR_get : ∀ (l : List Ms) (i : Nat) (h : i < l.length) (j : Nat), j < 4 → (msR l)[i * 4 + j]? = (msV l[i])[j]?
  | m :: r, 0, _, j, hj => by
    show ((msV m) ++ msR r)[0 * 4 + j]? = _
    rw [Nat.zero_mul, Nat.zero_add, List.getElem?_append_left (by simp [msV]; omega)]
    rfl
  | m :: r, i + 1, h, j, hj => by
    show ((msV m) ++ msR r)[(i + 1) * 4 + j]? = _
    rw [List.getElem?_append_right (by simp [msV]; omega)]
    have := msR_get r i (by simpa using h) j hj
    rw [show (i + 1) * 4 + j - (msV m).length = i * 4 + j from by simp [msV]; omega, this]
    rfl
theorem msR_one (l : List Ms) : ∀ u ∈ msR l, u.oneCell' = true := by
  intro u hu
  simp only [msR, List.mem_flatMap, msV] at hu
  obtain ⟨m, -, hm⟩ := hu
  simp only [List.mem_cons, List.not_mem_nil, or_false] at hm
  rcases hm with rfl | rfl | rfl | rfl <;> rfl
/-- The bytes of a message, as a thing. -/
def thD (base : Nat) (m : Ms) : Th := thOwn base m.ao m.cap m.bs
/-- A Net: the block p holds the row, which lies in a block of its own. -/
def thNetnet (base p : Nat) (ro : Option Addr) (rc : Nat) (l : List Ms) : Th where
  T w := w.heap[p]? = some (.cells #[.slice ro l.length rc] 56 (0, 0)) ∧ w.ownsRow base 59 4 (.slice ro l.length rc) l.length (msR l) ∧ ∀ a, ro = some a → a.block ≠ p
  F x := x = p ∨ ∃ a, ro = some a ∧ a.block = x
  stay h k hS := by
    obtain ⟨h1, h2, h3⟩ := h
    refine ⟨(k.block p (lt_of_block h1) (hS p (.inl rfl))).trans h1, ⟨h2.1, ?_⟩, h3⟩
    rcases h2.2 with h4 | ⟨g, c, cur, hv, hg, hh, r⟩
    · exact .inl h4
    · exact .inr ⟨g, c, cur, hv, hg, (k.block g (lt_of_block hh) (hS g (by simp only [Value.slice.injEq] at hv; exact .inr ⟨_, hv.1, rfl⟩))).trans hh, r⟩
  lt h hx := by
    rcases hx with rfl | ⟨a, rfl, rfl⟩
    · exact lt_of_block h.1
    · exact (h.2.1.lt a.block rfl).2
/-- A Net and the bytes of its messages. -/
def netnetL (base p : Nat) (ro : Option Addr) (rc : Nat) (l : List Ms) : List Th := thNetnet base p ro rc l :: l.map (thD base)
/-- A Net: the block p holds the row, which lies in a block of its own. -/
def thNetref (base p : Nat) (ro : Option Addr) (rc : Nat) (l : List Ms) : Th where
  T w := w.heap[p]? = some (.cells #[.slice ro l.length rc] 50 (0, 0)) ∧ w.ownsRow base 72 4 (.slice ro l.length rc) l.length (msR l) ∧ ∀ a, ro = some a → a.block ≠ p
  F x := x = p ∨ ∃ a, ro = some a ∧ a.block = x
  stay h k hS := by
    obtain ⟨h1, h2, h3⟩ := h
    refine ⟨(k.block p (lt_of_block h1) (hS p (.inl rfl))).trans h1, ⟨h2.1, ?_⟩, h3⟩
    rcases h2.2 with h4 | ⟨g, c, cur, hv, hg, hh, r⟩
    · exact .inl h4
    · exact .inr ⟨g, c, cur, hv, hg, (k.block g (lt_of_block hh) (hS g (by simp only [Value.slice.injEq] at hv; exact .inr ⟨_, hv.1, rfl⟩))).trans hh, r⟩
  lt h hx := by
    rcases hx with rfl | ⟨a, rfl, rfl⟩
    · exact lt_of_block h.1
    · exact (h.2.1.lt a.block rfl).2
/-- A Net and the bytes of its messages. -/
def netrefL (base p : Nat) (ro : Option Addr) (rc : Nat) (l : List Ms) : List Th := thNetref base p ro rc l :: l.map (thD base)
end Go.Proofs.Ytcboflabjdiadaa
