/- The Writer's methods, by the frame of things that stay apart. -/
import Derived.Test.YtglidhbkglfkeaaObj
import Derived.Test.YtglidhbkglfkeaaThO
namespace Go.Proofs.Ytglidhbkglfkeaa
open Go.RowKit

def intV (l : List Int) : List Value := l.map (.int .i64)
theorem irow_obj {w : World} {n : Nat} {vs : List Int} {t : TypeId} {cur : Array Value} (h : w.heap[n]? = some (.cells cur t (0, 0))) (hc : cur = (intV vs).toArray) : IRow w n 0 vs := by
  subst hc
  intro i hi
  rw [(cells_of_obj h).1, Nat.zero_add]
  simp [intV, hi]
/-- Nums of numbers that are written out. -/
theorem St.nums {W w : World} {L : List Th} {p : Nat} {l : List UInt8} {o : Option Nat} (h : St W w (thWr p W.heap.size l o :: L)) (vs : List Int) (n k : Nat) (hn : n = w.heap.size) (hk : k = vs.length) (cur : Array Value) (hc : cur = (intV vs).toArray) (hm : l.length + 10 * vs.length ≤ 140737488351232) :
    Calls Try.prog 21 #[.pointer (some ⟨p, 0, none⟩), .slice (some ⟨n, 0, none⟩) k k] (w.alloc (.cells cur 3)) fun e w' => e = .returned (.tuple #[]) ∧ ∃ o', St W w' (thWr p W.heap.size (l ++ encs vs) o' :: L) := by
  subst hn hk
  have hw := h.head
  have hb := h.b.size
  have hg : St W (w.alloc (.cells cur 3)) (thWr p W.heap.size l o :: L) := h.grow (below_allocO _ _)
  refine (nums_some p W.heap.size l o w.heap.size 0 vs.length vs _ hg.head (irow_obj (heap_new w _) hc) (by simp) (fun e => by have := (show WrAt w p W.heap.size l o from hw).lt; omega) (fun e => by have := ((show WrAt w p W.heap.size l o from hw).own_lt _ e).1; omega) (by simp; omega) hm).mono ?_
  rintro e w' ⟨rfl, hi⟩
  exact ⟨rfl, hg.wrote hi⟩
/-- Rows that are written out. -/
theorem rs_lit {w : World} {n : Nat} {cur : Array Value} {t : TypeId} (h : w.heap[n]? = some (.cells cur t (0, 0))) (L : List RowR) (hc : cur.toList = L.map fun r => Value.slice r.ao r.bs.length r.cap) (D : Nat → Prop) (hD : D n) (hL : ∀ r ∈ L, r.bs.length ≤ r.cap ∧ r.cap ≤ 9223372036854775807 ∧ (r.ao = none → r.bs.length = 0 ∧ r.cap = 0) ∧ BIn w D r.ao r.bs) : RsAt w D (some ⟨n, 0, none⟩) L := by
  refine fun _ => ⟨n, 0, rfl, lt_of_block h, hD, fun i hi => ?_⟩
  obtain ⟨h1, h2, h3, h4⟩ := hL _ (List.getElem_mem hi)
  refine ⟨?_, h1, h2, h3, h4⟩
  rw [(cells_of_obj h).1, Nat.zero_add, ← Array.getElem?_toList, hc]
  simp [hi]
/-- Bytes of rows that are written out. -/
theorem St.rows {W w : World} {L : List Th} {p : Nat} {l : List UInt8} {o : Option Nat} (h : St W w (thWr p W.heap.size l o :: L)) (R : List RowR) (n k : Nat) (hn : n = w.heap.size) (hk : k = R.length) (cur : Array Value) (hc : cur.toList = R.map fun r => Value.slice r.ao r.bs.length r.cap)
    (hR : ∀ r ∈ R, r.bs.length ≤ r.cap ∧ r.cap ≤ 9223372036854775807 ∧ (r.ao = none → r.bs.length = 0 ∧ r.cap = 0) ∧ BAt w r.ao r.bs ∧ ∀ a, r.ao = some a → ¬ Foot p o a.block) (hm : l.length + 10 * R.length + (flatR R).length + 10 ≤ 140737488351232) :
    Calls Try.prog 22 #[.pointer (some ⟨p, 0, none⟩), .slice (some ⟨n, 0, none⟩) k k] (w.alloc (.cells cur 27)) fun e w' => e = .returned (.tuple #[]) ∧ ∃ o', St W w' (thWr p W.heap.size (l ++ encRows R) o' :: L) := by
  subst hn hk
  have hw : WrAt w p W.heap.size l o := h.head
  have hb := h.b.size
  have hg : St W (w.alloc (.cells cur 27)) (thWr p W.heap.size l o :: L) := h.grow (below_allocO _ _)
  have hnp : ¬ Foot p o w.heap.size := by
    rintro (e | e)
    · have := hw.lt; omega
    · have := (hw.own_lt _ e).1; omega
  have hrs := rs_lit (heap_new w (.cells cur 27)) R hc (fun x => x < (w.alloc (.cells cur 27)).heap.size ∧ ¬ Foot p o x) ⟨by simp, hnp⟩ (fun r hr => by
    obtain ⟨h1, h2, h3, h4, h5⟩ := hR r hr
    refine ⟨h1, h2, h3, fun hp => ?_⟩
    obtain ⟨b, off, e, hlt, hrow⟩ := h4 hp
    exact ⟨b, off, e, by simp; omega, ⟨by simp; omega, h5 _ e⟩, hrow.below hlt (below_allocO _ _)⟩)
  refine (wbytes_any p W.heap.size l o _ R.length R _ _ hg.head hrs (fun hx => hx.2 (.inl rfl)) (fun g hgo hx => hx.2 (.inr hgo)) (fun x hx => hx.1) (by simp; omega) (by omega)).mono ?_
  rintro e w' ⟨rfl, hi⟩
  exact ⟨rfl, hg.wrote hi⟩
end Go.Proofs.Ytglidhbkglfkeaa
