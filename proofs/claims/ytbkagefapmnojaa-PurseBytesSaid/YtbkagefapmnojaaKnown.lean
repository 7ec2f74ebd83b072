/- A Writer that is made, and done. -/
import Derived.Test.YtbkagefapmnojaaWrRows
import Derived.Test.YtbkagefapmnojaaHelp
import Derived.Lib.SmallJoins
namespace Go.Proofs.Ytbkagefapmnojaa
open Go.RowKit Go.Joins

/-- A Writer that has just been made. -/
theorem wr_new (w : World) (base : Nat) (n : Nat) (hn : n = w.heap.size) : WrAt (w.alloc (.cells #[.slice none 0 0] 53)) n base [] none := by
  subst hn
  exact ⟨none, 0, heap_new w _, ⟨rfl, .inl ⟨rfl, rfl⟩⟩, rfl, by simp⟩
theorem WInv.done {w wr : World} {p base : Nat} {o : Option Nat} {full : List UInt8} (h : WInv w wr p base o full []) : ∃ o', WrAt wr p base full o' ∧ Keeps w wr (Foot p o) ∧ (∀ g, o' = some g → o = some g ∨ w.heap.size ≤ g) := by
  obtain ⟨cur, o', h1, h2, h3, h4⟩ := h
  rw [List.append_nil] at h2
  subst h2
  exact ⟨o', h1, h3, h4⟩

theorem bin_lit (w : World) (n : Nat) (hn : n = w.heap.size) (l : List UInt8) (t : TypeId) (fr : Nat × Nat) (D : Nat → Prop) (hD : D n) : BIn (w.alloc (.cells (bytV l).toArray t fr)) D (some ⟨n, 0, none⟩) l := fun hp => by
  obtain ⟨b, off, e, hb, hr⟩ := bat_lit w n hn l t fr hp
  simp only [Option.some.injEq, Addr.mk.injEq, and_true] at e
  obtain ⟨rfl, rfl⟩ := e
  exact ⟨n, 0, rfl, hb, hD, hr⟩
theorem BIn.grow {w w' : World} {D : Nat → Prop} {ao : Option Addr} {l : List UInt8} (h : BIn w D ao l) (b : Below w.heap.size w w') : BIn w' D ao l := h.keeps (keeps_same b (fun _ => False)) (fun _ _ h => h)
theorem below_alloc (w : World) (o : Obj) : Below w.heap.size w (w.alloc o) := (Below.refl _ _).alloc (Nat.le_refl _) _
theorem rat_of {w : World} {D : Nat → Prop} {b o : Nat} {g n : Nat} {l : List UInt8} (c : w.cell? ⟨b, o, none⟩ = some (.slice (some ⟨g, 0, none⟩) l.length n)) (hn : l.length ≤ n) (hn2 : n ≤ 9223372036854775807) (h : BIn w D (some ⟨g, 0, none⟩) l) : RAt w D b o ⟨some ⟨g, 0, none⟩, n, l⟩ := ⟨c, hn, hn2, fun h => (nomatch h), h⟩

theorem const_bytes1 (w : World) (o : Obj) (C : Array Value) (n c : Nat) : (convert 35 35 (.slice (some ⟨w.heap.size + 1, 0, none⟩) n c)).run Try.prog ((w.alloc o).alloc (.cells C 5)) = .ok (.slice (some ⟨w.heap.size + 1, 0, none⟩) n c) ((w.alloc o).alloc (.cells C 5 (C.size, C.size + 1))) := by
  have := const_bytes (w.alloc o) C n c
  rwa [show (w.alloc o).heap.size = w.heap.size + 1 from by simp] at this
end Go.Proofs.Ytbkagefapmnojaa
