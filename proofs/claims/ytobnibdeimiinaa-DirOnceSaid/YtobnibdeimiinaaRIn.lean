/- Rows of zones put together anew: what the appends of the document's done want. -/
import Derived.Test.YtobnibdeimiinaaDOwn
namespace Go.Proofs.Ytobnibdeimiinaa
open Go.RowKit

theorem lt_of_cellX {w : World} {a : Addr} {v : Value} (h : w.cell? a = some v) : a.block < w.heap.size := by
  rcases Nat.lt_or_ge a.block w.heap.size with h1 | h1
  · exact h1
  · simp [World.cell?, Array.getElem?_eq_none h1] at h
theorem owns_drew {w : World} {base : Nat} {e : TypeId} {size n : Nat} {v : Value} {xs : List Value} (h : w.ownsRow base e size v n xs) : w.drew.ownsRow base e size v n xs := h
/-- A row of zones of the call's own, by value. -/
def OwnV (w : World) (base : Nat) (v : Value) (n : Nat) (l : List Zn) : Prop := w.ownsRow base 39 9 v n (znR l)
theorem OwnV.alloc {w : World} {base n : Nat} {v : Value} {l : List Zn} (h : OwnV w base v n l) (o : Obj) : OwnV (w.alloc o) base v n l := World.ownsRow.alloc h o
theorem OwnV.shape {w : World} {base n : Nat} {v : Value} {l : List Zn} (h : OwnV w base v n l) (hn : 0 < n) : ∃ g cap, v = .slice (some ⟨g, 0, none⟩) n cap ∧ OwnV w base (.slice (some ⟨g, 0, none⟩) n cap) n l := by
  rcases h.2 with ⟨hv, h0⟩ | ⟨g, c, cur, hv, -⟩
  · omega
  · exact ⟨g, c, hv, hv ▸ h⟩
/-- The cells of zones in a block, behind a slice's address. -/
def ZCells (w : World) (b : Nat) (l : List Zn) : Prop := ∀ ad, some (⟨b, 0, none⟩ : Addr) = some ad → ∀ j u, (znR l)[j]? = some u → w.cell? (ad.add j) = some u
theorem zcells_new (w : World) (n : Nat) (hn : n = w.heap.size) (vs : Array Value) (l : List Zn) (hv : vs.toList = znR l) : ZCells (w.alloc (.cells vs 39)) n l := by
  subst hn
  intro ad had j u hu
  obtain rfl : ad = ⟨w.heap.size, 0, none⟩ := by simpa using had.symm
  exact World.news_of_block (heap_new w _) j u (by simpa [hv] using hu)
theorem ZCells.grown {w w' : World} {b : Nat} {l : List Zn} {row : Option Nat} (h : ZCells w b l) (hb : b < w.heap.size) (hg : w.grownBy w' row) (hne : row ≠ some b) : ZCells w' b l := by
  intro ad had j u hu
  have := h ad had j u hu
  obtain rfl : ad = ⟨b, 0, none⟩ := by simpa using had.symm
  rw [add_none] at this ⊢
  exact (hg.cell_far ⟨b, _, none⟩ hb (fun e => hne e.symm)).trans this
theorem ZCells.alloc {w : World} {b : Nat} {l : List Zn} (h : ZCells w b l) (o : Obj) : ZCells (w.alloc o) b l := by
  intro ad had j u hu
  have := h ad had j u hu
  obtain rfl : ad = ⟨b, 0, none⟩ := by simpa using had.symm
  rw [add_none] at this ⊢
  exact (World.cell?_alloc_past _ _ _ (lt_of_cellX this)).trans this
theorem ZCells.drew {w : World} {b : Nat} {l : List Zn} (h : ZCells w b l) : ZCells w.drew b l := h
theorem ownne {b c o n m : Nat} (h : b ≠ c) : (Value.slice (some ⟨b, o, none⟩) n m).ownBlock ≠ some c := by simp [Value.ownBlock, h]
theorem znR_take {l : List Zn} {k : Nat} {j : Nat} {u : Value} (hu : (znR (l.take k))[j]? = some u) : (znR l)[j]? = some u := by
  have h : znR l = znR (l.take k) ++ znR (l.drop k) := by rw [← znR_append, List.take_append_drop]
  rw [h, List.getElem?_append_left (List.getElem?_eq_some_iff.1 hu).1]
  exact hu
theorem take_cells {w w0 : World} {g : Nat} {l : List Zn} (h : ZnAt w g l) (hb : Below w.heap.size w w0) (k : Nat) : ZCells w0 g (l.take k) := by
  intro ad had j u hu
  exact h.cells _ hb ad had j u (znR_take hu)
theorem drop_cells {w w0 : World} {g : Nat} {l : List Zn} (h : ZnAt w g l) (hb : Below w.heap.size w w0) (k : Nat) (ao : Option Addr) (hao : k < l.length → ao = some ⟨g, k * 9, none⟩) : ∀ ad, ao = some ad → ∀ j u, (znR (l.drop k))[j]? = some u → w0.cell? (ad.add j) = some u := by
  intro ad had j u hu
  by_cases hk : k < l.length
  · rw [hao hk] at had
    obtain rfl : ad = ⟨g, k * 9, none⟩ := by simpa using had.symm
    have hz : znR l = znR (l.take k) ++ znR (l.drop k) := by rw [← znR_append, List.take_append_drop]
    have hl : (znR (l.take k)).length = k * 9 := by rw [znR_length, List.length_take, Nat.min_eq_left (by omega)]
    have := h.cells _ hb ⟨g, 0, none⟩ rfl (k * 9 + j) u (by rw [hz, List.getElem?_append_right (by omega), hl, Nat.add_sub_cancel_left]; exact hu)
    rw [add_none] at this ⊢
    simpa using this
  · rw [List.drop_eq_nil_of_le (by omega)] at hu
    simp [znR] at hu
/-- A zone in a block of its own. -/
def ZObj (w : World) (b : Nat) (z : Zn) : Prop := w.heap[b]? = some (.cells (znV z).toArray 39 (0, 0))
theorem zobj_new (w : World) (n : Nat) (hn : n = w.heap.size) (vs : Array Value) (z : Zn) (hv : vs = (znV z).toArray) : ZObj (w.alloc (.cells vs 39)) n z := by
  subst hn hv; exact heap_new w _
theorem ZObj.lt {w : World} {b : Nat} {z : Zn} (h : ZObj w b z) : b < w.heap.size := lt_of_block h
theorem ZObj.grow {w w' : World} {b : Nat} {z : Zn} (h : ZObj w b z) (k : Below w.heap.size w w') : ZObj w' b z := (k.block b h.lt).trans h
theorem ZObj.set {w : World} {b : Nat} {z : Zn} (h : ZObj w b z) (j : Nat) (v : Value) (z' : Zn) (hz : znV z' = (znV z).set j v) : ZObj (w.setCell ⟨b, j, none⟩ v) b z' := by
  have := set_obj h j v
  unfold ZObj
  rw [this, hz]
  simp
theorem ZObj.far {w : World} {b c : Nat} {z : Zn} (h : ZObj w b z) (hn : b ≠ c) (j : Nat) (v : Value) : ZObj (w.setCell ⟨c, j, none⟩ v) b z := ((Keeps.set w ⟨c, j, none⟩ v).block b h.lt hn).trans h
theorem ZObj.drew {w : World} {b : Nat} {z : Zn} (h : ZObj w b z) : ZObj w.drew b z := h
theorem ZObj.drewR {w : World} {b : Nat} {z : Zn} (h : ZObj w.drew b z) : ZObj w b z := h
theorem ZObj.nine {w : World} {b : Nat} {z : Zn} (h : ZObj w b z) : (w.cell? ⟨b, 0, none⟩ = some (.int .i64 z.id) ∧ w.cell? ⟨b, 1, none⟩ = some (.string z.fr) ∧ w.cell? ⟨b, 2, none⟩ = some (.string z.to) ∧ w.cell? ⟨b, 3, none⟩ = some (.int .i64 z.owner) ∧ w.cell? ⟨b, 4, none⟩ = some (.int .i64 z.epoch) ∧ w.cell? ⟨b, 5, none⟩ = some (.int .i64 z.pend) ∧ w.cell? ⟨b, 6, none⟩ = some (.int .i64 z.tt) ∧ w.cell? ⟨b, 7, none⟩ = some (.string z.key) ∧ w.cell? ⟨b, 8, none⟩ = some (.int .i64 z.nw)) ∧ ∀ j, w.frozen? ⟨b, j, none⟩ = false := by
  have hh := cells_of_obj h
  exact ⟨⟨hh.1 0, hh.1 1, hh.1 2, hh.1 3, hh.1 4, hh.1 5, hh.1 6, hh.1 7, hh.1 8⟩, hh.2⟩
section
variable {w : World} {b : Nat} {a o e p q n o' e' a' : Int} {f t k f' t' : ByteArray}
theorem ZObj.s124 (h : ZObj w b (Zn.mk a f t o e p q k n)) : ZObj (((w.setCell ⟨b, 1, none⟩ (.string f')).setCell ⟨b, 2, none⟩ (.string t')).setCell ⟨b, 4, none⟩ (.int .i64 e')) b (Zn.mk a f' t' o e' p q k n) :=
  ((h.set 1 _ (Zn.mk a f' t o e p q k n) rfl).set 2 _ (Zn.mk a f' t' o e p q k n) rfl).set 4 _ _ rfl
theorem ZObj.s412 (h : ZObj w b (Zn.mk a f t o e p q k n)) : ZObj (((w.setCell ⟨b, 4, none⟩ (.int .i64 e')).setCell ⟨b, 1, none⟩ (.string f')).setCell ⟨b, 2, none⟩ (.string t')) b (Zn.mk a f' t' o e' p q k n) :=
  ((h.set 4 _ (Zn.mk a f t o e' p q k n) rfl).set 1 _ (Zn.mk a f' t o e' p q k n) rfl).set 2 _ _ rfl
theorem ZObj.s012 (h : ZObj w b (Zn.mk a f t o e p q k n)) : ZObj (((w.setCell ⟨b, 0, none⟩ (.int .i64 a')).setCell ⟨b, 1, none⟩ (.string f')).setCell ⟨b, 2, none⟩ (.string t')) b (Zn.mk a' f' t' o e p q k n) :=
  ((h.set 0 _ (Zn.mk a' f t o e p q k n) rfl).set 1 _ (Zn.mk a' f' t o e p q k n) rfl).set 2 _ _ rfl
theorem ZObj.s120 (h : ZObj w b (Zn.mk a f t o e p q k n)) : ZObj (((w.setCell ⟨b, 1, none⟩ (.string f')).setCell ⟨b, 2, none⟩ (.string t')).setCell ⟨b, 0, none⟩ (.int .i64 a')) b (Zn.mk a' f' t' o e p q k n) :=
  ((h.set 1 _ (Zn.mk a f' t o e p q k n) rfl).set 2 _ (Zn.mk a f' t' o e p q k n) rfl).set 0 _ _ rfl
theorem ZObj.s12 (h : ZObj w b (Zn.mk a f t o e p q k n)) : ZObj ((w.setCell ⟨b, 1, none⟩ (.string f')).setCell ⟨b, 2, none⟩ (.string t')) b (Zn.mk a f' t' o e p q k n) :=
  (h.set 1 _ (Zn.mk a f' t o e p q k n) rfl).set 2 _ _ rfl
theorem ZObj.s4 (h : ZObj w b (Zn.mk a f t o e p q k n)) : ZObj (w.setCell ⟨b, 4, none⟩ (.int .i64 e')) b (Zn.mk a f t o e' p q k n) := h.set 4 _ _ rfl
end
end Go.Proofs.Ytobnibdeimiinaa
