/- The Writer's methods, by the frame of things that stay apart. -/
import Derived.Test.YtbkagefapmnojaaObj
import Derived.Test.YtbkagefapmnojaaThO
namespace Go.Proofs.Ytbkagefapmnojaa
open Go.RowKit

def intV (l : List Int) : List Value := l.map (.int .i64)
theorem irow_obj {w : World} {n : Nat} {vs : List Int} {t : TypeId} {cur : Array Value} (h : w.heap[n]? = some (.cells cur t (0, 0))) (hc : cur = (intV vs).toArray) : IRow w n 0 vs := by
  subst hc
  intro i hi
  rw [(cells_of_obj h).1, Nat.zero_add]
  simp [intV, hi]
/-- Nums of numbers that are written out. -/
theorem St.nums {W w : World} {L : List Th} {p : Nat} {l : List UInt8} {o : Option Nat} (h : St W w (thWr p W.heap.size l o :: L)) (vs : List Int) (n k : Nat) (hn : n = w.heap.size) (hk : k = vs.length) (cur : Array Value) (hc : cur = (intV vs).toArray) (hm : l.length + 10 * vs.length ≤ 140737488351232) :
    Calls Try.prog 32 #[.pointer (some ⟨p, 0, none⟩), .slice (some ⟨n, 0, none⟩) k k] (w.alloc (.cells cur 3)) fun e w' => e = .returned (.tuple #[]) ∧ ∃ o', St W w' (thWr p W.heap.size (l ++ encs vs) o' :: L) := by
  subst hn hk
  have hw := h.head
  have hb := h.b.size
  have hg : St W (w.alloc (.cells cur 3)) (thWr p W.heap.size l o :: L) := h.grow (below_allocO _ _)
  refine (nums_some p W.heap.size l o w.heap.size 0 vs.length vs _ hg.head (irow_obj (heap_new w _) hc) (by simp) (fun e => by have := (show WrAt w p W.heap.size l o from hw).lt; omega) (fun e => by have := ((show WrAt w p W.heap.size l o from hw).own_lt _ e).1; omega) (by simp; omega) hm).mono ?_
  rintro e w' ⟨rfl, hi⟩
  exact ⟨rfl, hg.wrote hi⟩
/-- Rows that are written out. -/
theorem rs_lit {w : World} {n : Nat} {cur : Array Value} {t : TypeId} (h : w.heap[n]? = some (.cells cur t (0, 0))) (L : List RowR) (hc : cur.toList = L.map fun r => Value.slice r.ao r.bs.length r.cap) (D : Nat → Prop) (hD : D n) (hL : ∀ r ∈ L, r.bs.length ≤ r.cap ∧ r.cap ≤ 9223372036854775807 ∧ (r.ao = none → r.bs.length = 0 ∧ r.cap = 0) ∧ BIn w D r.ao r.bs) : RsAt w D (some ⟨n, 0, none⟩) L := by
  refine fun _ => ⟨n, 0, rfl, lt_of_block h, hD, fun i hi => ?_⟩
  obtain ⟨h1, h2, h3, h4⟩ := hL _ (List.getElem_mem hi)
  refine ⟨?_, h1, h2, h3, h4⟩
  rw [(cells_of_obj h).1, Nat.zero_add, ← Array.getElem?_toList, hc]
  simp [hi]
end Go.Proofs.Ytbkagefapmnojaa
