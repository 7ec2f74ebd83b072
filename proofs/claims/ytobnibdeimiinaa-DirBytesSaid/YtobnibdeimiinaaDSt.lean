/- A directory's state, and what a store into it leaves. -/
import Derived.Test.YtobnibdeimiinaaDelete
import Derived.Test.YtobnibdeimiinaaFind
namespace Go.Proofs.Ytobnibdeimiinaa
open Go.RowKit

/-- A change was tried: it applied, or the map is what it was. -/
def ChPost (ty : TypeId) (W : World) (p : Nat) (m : Mp) (ho : Option Addr) (hl hc : Nat) (L : List Th) (r : Option Mp) (e : Ending) (w' : World) : Prop := ∃ g' zc', e = .returned (.bool r.isSome) ∧ St W w' (thDir ty W.heap.size p g' zc' (r.getD m) ho hl hc :: L)
theorem chPost_no {ty : TypeId} {W w w' : World} {p g zc : Nat} {m : Mp} {ho : Option Addr} {hl hc : Nat} {L : List Th} {r : Option Mp} (h : St W w (thDir ty W.heap.size p g zc m ho hl hc :: L)) (hr : r = none) (b : Below w.heap.size w w') : ChPost ty W p m ho hl hc L r (.returned (.bool false)) w' := by
  subst hr; exact ⟨g, zc, rfl, h.grow b⟩
theorem chPost_yes {ty : TypeId} {W w' : World} {p g zc : Nat} {m m' : Mp} {ho : Option Addr} {hl hc : Nat} {L : List Th} {r : Option Mp} (hr : r = some m') (h : St W w' (thDir ty W.heap.size p g zc m' ho hl hc :: L)) : ChPost ty W p m ho hl hc L r (.returned (.bool true)) w' := by
  subst hr; exact ⟨g, zc, rfl, h⟩
/-- A cell of a zone is turned. -/
theorem St.dirCell {ty : TypeId} {W w : World} {p g zc : Nat} {m : Mp} {ho : Option Addr} {hl hc : Nat} {L : List Th} (h : St W w (thDir ty W.heap.size p g zc m ho hl hc :: L)) (i : Nat) (hi : i < m.zs.length) (j : Nat) (hj : j < 9) (v : Value) (z' : Zn) (he : znV z' = (znV m.zs[i]).set j v) :
    St W (w.setCell ⟨g, i * 9 + j, none⟩ v) (thDir ty W.heap.size p g zc { m with zs := m.zs.set i z' } ho hl hc :: L) := by
  refine h.step ((Keeps.set w ⟨g, i * 9 + j, none⟩ v).weak (fun x _ e => .inr e)) _ ⟨?_, h.head.2.1.set i hi j hj v z' he, h.head.2.2⟩ (fun x hx => .inl hx)
  have := (Keeps.set w ⟨g, i * 9 + j, none⟩ v).block p (lt_of_block h.head.1) (fun e => h.head.2.2 e.symm)
  rw [this, h.head.1]
  simp [dirCells]
theorem OwnZ.setAll {w : World} {base g cap : Nat} {l : List Zn} (h : OwnZ w base g cap l) (i : Nat) (hi : i < l.length) (z' : Zn) : OwnZ (w.setCells g (i * 9) (znV z')) base g cap (l.set i z') := by
  obtain ⟨cur, hh, hs⟩ := h.block
  obtain ⟨f1, f2, f3, f4⟩ := h.facts
  obtain ⟨c1, hc1, e1⟩ := block_setCells g 39 (0, 0) (znV z') (i * 9) _ cur hh
  have hcell : ∀ j, j < cap * 9 → (w.cell? ⟨g, j, none⟩).isSome = true := fun j hj => by
    simp only [World.cell?, hh, Array.getElem?_eq_getElem (show j < cur.size by omega)]
    simp
  unfold OwnZ
  rw [List.length_set]
  refine owns_of_cells f1 hc1 f3 (by unfold maxLen; omega) (by omega) (by rw [znR_length, List.length_set]) ?_
  intro j hj
  rw [znR_length, List.length_set] at hj
  rw [← List.getElem?_eq_getElem]
  obtain ⟨a, b, rfl, hb⟩ : ∃ a b, j = a * 9 + b ∧ b < 9 := ⟨j / 9, j % 9, by omega, by omega⟩
  have ha : a < l.length := by omega
  rw [znR_get _ a (by rw [List.length_set]; exact ha) b hb]
  by_cases e : i = a
  · subst e
    rw [World.cell?_setCells_in g _ _ _ (fun q hq => by rw [znV_length] at hq; exact hcell _ (by omega)) b (by rw [znV_length]; exact hb), List.getElem_set_self, List.getElem?_eq_getElem]
  · rw [World.cell?_setCells_out g _ _ _ _ (fun _ _ => by rw [znV_length]; show a * 9 + b < i * 9 ∨ i * 9 + 9 ≤ a * 9 + b; omega), List.getElem_set_ne e, ← znR_get l a ha b hb]
    exact h.cellAt _ (by omega)
/-- A zone is turned. -/
theorem St.dirZone {ty : TypeId} {W w : World} {p g zc : Nat} {m : Mp} {ho : Option Addr} {hl hc : Nat} {L : List Th} (h : St W w (thDir ty W.heap.size p g zc m ho hl hc :: L)) (i : Nat) (hi : i < m.zs.length) (z' : Zn) :
    St W (w.setCells g (i * 9) (znV z')) (thDir ty W.heap.size p g zc { m with zs := m.zs.set i z' } ho hl hc :: L) := by
  refine h.step ((keeps_setCellsN w g (i * 9) (znV z')).weak (fun x _ e => .inr e)) _ ⟨?_, h.head.2.1.setAll i hi z', h.head.2.2⟩ (fun x hx => .inl hx)
  have := (keeps_setCellsN w g (i * 9) (znV z')).block p (lt_of_block h.head.1) (fun e => h.head.2.2 e.symm)
  rw [this, h.head.1]
  simp [dirCells]
theorem set_obj {w : World} {p : Nat} {cur : Array Value} {ty : TypeId} (h : w.heap[p]? = some (.cells cur ty (0, 0))) (j : Nat) (v : Value) : (w.setCell ⟨p, j, none⟩ v).heap[p]? = some (.cells (cur.setIfInBounds j v) ty (0, 0)) := by
  simp [World.setCell, Array.getElem?_modify, h]
/-- The version is turned. -/
theorem St.dirVer {ty : TypeId} {W w : World} {p g zc : Nat} {m : Mp} {ho : Option Addr} {hl hc : Nat} {L : List Th} (h : St W w (thDir ty W.heap.size p g zc m ho hl hc :: L)) (v : Int) :
    St W (w.setCell ⟨p, 0, none⟩ (.int .i64 v)) (thDir ty W.heap.size p g zc { m with ver := v } ho hl hc :: L) := by
  have k := Keeps.set w ⟨p, 0, none⟩ (.int .i64 v)
  exact h.step (k.weak (fun x _ e => .inl e)) _ ⟨set_obj h.head.1 0 _, h.head.2.1.keeps k (fun e => h.head.2.2 e), h.head.2.2⟩ (fun x hx => .inl hx)
/-- The next number is turned. -/
theorem St.dirNext {ty : TypeId} {W w : World} {p g zc : Nat} {m : Mp} {ho : Option Addr} {hl hc : Nat} {L : List Th} (h : St W w (thDir ty W.heap.size p g zc m ho hl hc :: L)) (v : Int) :
    St W (w.setCell ⟨p, 1, none⟩ (.int .i64 v)) (thDir ty W.heap.size p g zc { m with next := v } ho hl hc :: L) := by
  have k := Keeps.set w ⟨p, 1, none⟩ (.int .i64 v)
  exact h.step (k.weak (fun x _ e => .inl e)) _ ⟨set_obj h.head.1 1 _, h.head.2.1.keeps k (fun e => h.head.2.2 e), h.head.2.2⟩ (fun x hx => .inl hx)
/-- A directory whose row was left. -/
def thDirO (ty : TypeId) (base p g g' zc zc' : Nat) (m : Mp) (ho : Option Addr) (hl hc : Nat) (l : List Zn) : Th where
  T w := w.heap[p]? = some (.cells (dirCells m g zc ho hl hc) ty (0, 0)) ∧ OwnZ w base g' zc' l
  F x := x = p ∨ x = g'
  stay h k hS := ⟨(k.block p (lt_of_block h.1) (hS p (.inl rfl))).trans h.1, h.2.keeps k (hS g' (.inr rfl))⟩
  lt h hx := by
    rcases hx with rfl | rfl
    · exact lt_of_block h.1
    · exact h.2.facts.2.1
/-- The zones go into another row. -/
theorem St.dirRow {ty : TypeId} {W w w1 : World} {p g zc g' zc' : Nat} {m : Mp} {ho : Option Addr} {hl hc : Nat} {L : List Th} {l : List Zn} (h : St W w (thDir ty W.heap.size p g zc m ho hl hc :: L)) (k : Keeps w w1 (fun x => x = g)) (ho1 : OwnZ w1 W.heap.size g' zc' l) (hg : g' = g ∨ w.heap.size ≤ g') (n : Nat) (hn : n = l.length) :
    St W (w1.setCell ⟨p, 2, none⟩ (.slice (some ⟨g', 0, none⟩) n zc')) (thDir ty W.heap.size p g' zc' { m with zs := l } ho hl hc :: L) := by
  subst hn
  have hgp : g' ≠ p := by
    rcases hg with e | e
    · rw [e]; exact h.head.2.2
    · have := lt_of_block h.head.1; omega
  have hb1 : w1.heap[p]? = some (.cells (dirCells m g zc ho hl hc) ty (0, 0)) := (k.block p (lt_of_block h.head.1) (fun e => h.head.2.2 e.symm)).trans h.head.1
  have k2 := Keeps.set w1 ⟨p, 2, none⟩ (.slice (some ⟨g', 0, none⟩) l.length zc')
  have h1 := h.step (k.weak (fun x _ e => .inr e)) (thDirO ty W.heap.size p g g' zc zc' m ho hl hc l) ⟨hb1, ho1⟩ (fun x hx => by
    rcases hx with e | e
    · exact .inl (.inl e)
    · rcases hg with e2 | e2
      · exact .inl (.inr (e.trans e2))
      · exact .inr (e ▸ e2))
  exact h1.step (k2.weak (fun x _ e => .inl e)) _ ⟨set_obj h1.head.1 2 _, h1.head.2.keeps k2 hgp, hgp⟩ (fun x hx => .inl hx)
/-- A store of a whole aggregate at a region's step. -/
theorem step_store_agg {P : Program} {ops : Array Oper} {o : Oper} {a : Act} {w : World} {K : Act → World → Prop} {Q : Exit → Act → World → Prop} {E : Prop} (hg : o.guard = none) (ty : TypeId) (x y : Operand) (hop : o.op = .store ty x y) (b off : Nat) (cells : Array Value)
    (hx : a.eval x = .pointer (some ⟨b, off, none⟩)) (hy : a.eval y = .agg cells) (ht : w.there b off cells.size) (hi : (P.info? ty).map (·.size) = some cells.size) (h1 : cells.all (·.oneCell') = true) (hK : K (a.put o.dst undef) (w.setCells b off cells.toList)) :
    if Region.wanted o (yielded ops a.tmps) = true then Oper.wp P o a w K Q else E := by
  rw [if_pos (by simp [Region.wanted, hg])]
  exact wp_store_mid ty x y hop b off cells hx hy ht hi h1 hK
theorem OwnZ.there {w : World} {base g cap : Nat} {l : List Zn} (h : OwnZ w base g cap l) (i : Nat) (hi : i < l.length) : w.there g (i * 9) 9 := fun j hj => by
  refine ⟨?_, h.frozen _⟩
  obtain ⟨cur, hh, hs⟩ := h.block
  obtain ⟨f1, f2, f3, f4⟩ := h.facts
  simp only [World.cell?, hh, Array.getElem?_eq_getElem (show i * 9 + j < cur.size by omega)]
  simp
theorem there_below {w w' : World} {g o n : Nat} (h : w.there g o n) (hg : g < w.heap.size) (b : Below w.heap.size w w') : w'.there g o n := fun j hj => by
  rw [(bcell b).1 g _ hg, (bcell b).2 g _ hg]; exact h j hj
theorem zn_agg (z : Zn) : (znV z).toArray.size = 9 := rfl
theorem St.dirNine {ty : TypeId} {W w : World} {p g zc : Nat} {m : Mp} {ho : Option Addr} {hl hc : Nat} {L : List Th} (h : St W w (thDir ty W.heap.size p g zc m ho hl hc :: L)) (i : Nat) (hi : i < m.zs.length) (z : Zn) :
    St W (((((((((w.setCell ⟨g, i * 9, none⟩ (.int .i64 z.id)).setCell ⟨g, i * 9 + 1, none⟩ (.string z.fr)).setCell ⟨g, i * 9 + 2, none⟩ (.string z.to)).setCell ⟨g, i * 9 + 3, none⟩ (.int .i64 z.owner)).setCell ⟨g, i * 9 + 4, none⟩ (.int .i64 z.epoch)).setCell ⟨g, i * 9 + 5, none⟩ (.int .i64 z.pend)).setCell ⟨g, i * 9 + 6, none⟩ (.int .i64 z.tt)).setCell ⟨g, i * 9 + 7, none⟩ (.string z.key)).setCell ⟨g, i * 9 + 8, none⟩ (.int .i64 z.nw)) (thDir ty W.heap.size p g zc { m with zs := m.zs.set i z } ho hl hc :: L) := h.dirZone i hi z
theorem St.dirAt {ty : TypeId} {W w : World} {p g zc : Nat} {m : Mp} {ho : Option Addr} {hl hc : Nat} {L : List Th} (h : St W w (thDir ty W.heap.size p g zc m ho hl hc :: L)) (i : Nat) (z : Zn) (hi : m.zs[i]? = some z) (j : Nat) (hj : j < 9) (v : Value) (z' : Zn) (he : znV z' = (znV z).set j v) :
    St W (w.setCell ⟨g, i * 9 + j, none⟩ v) (thDir ty W.heap.size p g zc { m with zs := m.zs.set i z' } ho hl hc :: L) := by
  obtain ⟨hil, rfl⟩ := List.getElem?_eq_some_iff.1 hi
  exact h.dirCell i hil j hj v z' he
theorem set_again {l : List Zn} {i : Nat} {z a : Zn} (hi : l[i]? = some z) : (l.set i a)[i]? = some a := by
  obtain ⟨hil, rfl⟩ := List.getElem?_eq_some_iff.1 hi
  simp [hil]
theorem St.dirTwo {ty : TypeId} {W w : World} {p g zc : Nat} {m : Mp} {ho : Option Addr} {hl hc : Nat} {L : List Th} (h : St W w (thDir ty W.heap.size p g zc m ho hl hc :: L)) (i : Nat) (z : Zn) (hi : m.zs[i]? = some z) (j : Nat) (hj : j < 9) (v : Value) (z' : Zn) (he : znV z' = (znV z).set j v) (k : Nat) (hk : k < 9) (u : Value) (y : Zn) (hy : znV y = (znV z').set k u) :
    St W ((w.setCell ⟨g, i * 9 + j, none⟩ v).setCell ⟨g, i * 9 + k, none⟩ u) (thDir ty W.heap.size p g zc { m with zs := m.zs.set i y } ho hl hc :: L) := by
  have := (h.dirAt i z hi j hj v z' he).dirAt i z' (set_again hi) k hk u y hy
  simpa only [List.set_set] using this
theorem St.dirThree {ty : TypeId} {W w : World} {p g zc : Nat} {m : Mp} {ho : Option Addr} {hl hc : Nat} {L : List Th} (h : St W w (thDir ty W.heap.size p g zc m ho hl hc :: L)) (i : Nat) (z : Zn) (hi : m.zs[i]? = some z) (j : Nat) (hj : j < 9) (v : Value) (z' : Zn) (he : znV z' = (znV z).set j v) (k : Nat) (hk : k < 9) (u : Value) (y : Zn) (hy : znV y = (znV z').set k u) (n : Nat) (hn : n < 9) (t : Value) (x : Zn) (hx : znV x = (znV y).set n t) :
    St W (((w.setCell ⟨g, i * 9 + j, none⟩ v).setCell ⟨g, i * 9 + k, none⟩ u).setCell ⟨g, i * 9 + n, none⟩ t) (thDir ty W.heap.size p g zc { m with zs := m.zs.set i x } ho hl hc :: L) := by
  have := (h.dirTwo i z hi j hj v z' he k hk u y hy).dirAt i y (set_again hi) n hn t x hx
  simpa only [List.set_set] using this
theorem at_goD {P : Program} {ops : Array Oper} {o : Oper} {a : Act} {w : World} {K : Act → World → Prop} {Q : Exit → Act → World → Prop} {E : Prop} (f : FuncId) (xs : Array Operand) (ts : Array TypeId) (_ : o.op = Op.call { callee := Callee.value (Operand.func f), args := xs, argTypes := ts }) (h : if Region.wanted o (yielded ops a.tmps) = true then Oper.wp P o a w K Q else E) : if Region.wanted o (yielded ops a.tmps) = true then Oper.wp P o a w K Q else E := h
end Go.Proofs.Ytobnibdeimiinaa
