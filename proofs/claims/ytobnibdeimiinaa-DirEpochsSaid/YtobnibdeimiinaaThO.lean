/- A block of the call's own, as a thing. -/
import Derived.Test.YtobnibdeimiinaaPerm
namespace Go.Proofs.Ytobnibdeimiinaa
open Go.RowKit

theorem below_allocO (w : World) (o : Obj) : Below w.heap.size w (w.alloc o) := (Below.refl _ _).alloc (Nat.le_refl _) _
/-- A block of which nothing is said. -/
def thFree (b : Nat) : Th where
  T w := b < w.heap.size
  F x := x = b
  stay h k _ := Nat.lt_of_lt_of_le h k.size
  lt h e := e ▸ h
theorem St.set_free {W w : World} {L : List Th} {b : Nat} (h : St W w (thFree b :: L)) (o : Nat) (v : Value) : St W (w.setCell ⟨b, o, none⟩ v) (thFree b :: L) :=
  h.step (Keeps.set w ⟨b, o, none⟩ v) _ (Nat.lt_of_lt_of_le h.head (Keeps.set w ⟨b, o, none⟩ v).size) (fun _ hx => .inl hx)
/-- A block and what it holds. -/
def thObj (b : Nat) (o : Obj) : Th where
  T w := w.heap[b]? = some o
  F x := x = b
  stay h k hS := (k.block b (lt_of_block h) (hS b rfl)).trans h
  lt h e := e ▸ lt_of_block h
theorem St.objN {W w : World} {L : List Th} (h : St W w L) (o : Obj) (n : Nat) (hn : n = w.heap.size) : St W (w.alloc o) (thObj n o :: L) := by
  subst hn
  exact h.new (below_allocO w o) _ (heap_new w o) (fun x e => by rw [e]; exact Nat.le_refl _)
theorem St.to_free {W w : World} {L : List Th} {b : Nat} {o : Obj} (h : St W w (thObj b o :: L)) : St W w (thFree b :: L) :=
  h.step (Keeps.refl _ _) _ (lt_of_block h.head) (fun _ hx => .inl hx)
theorem cells_of_obj {w : World} {b : Nat} {cur : Array Value} {t : TypeId} (h : w.heap[b]? = some (.cells cur t (0, 0))) : (∀ j, w.cell? ⟨b, j, none⟩ = cur[j]?) ∧ ∀ j, w.frozen? ⟨b, j, none⟩ = false := by
  refine ⟨fun j => by simp [World.cell?, h], fun j => by simp [World.frozen?, h]⟩
theorem St.cells {W w : World} {L : List Th} (h : St W w L) {b : Nat} {cur : Array Value} {t : TypeId} (ht : thObj b (.cells cur t (0, 0)) ∈ L) : b < w.heap.size ∧ (∀ j, w.cell? ⟨b, j, none⟩ = cur[j]?) ∧ ∀ j, w.frozen? ⟨b, j, none⟩ = false :=
  ⟨lt_of_block (h.mem ht), cells_of_obj (h.mem ht)⟩
end Go.Proofs.Ytobnibdeimiinaa
