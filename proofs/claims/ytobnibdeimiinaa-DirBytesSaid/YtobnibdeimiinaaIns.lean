/- slices.Insert of one zone, slices.Delete of one: what they leave. -/
import Derived.Test.YtobnibdeimiinaaZw
import Derived.Laws.IdiomCopy
import Derived.Lib.Overlaps
import Derived.Deep.MidRow
import Derived.Lib.AppendZeros
namespace Go.Proofs.Ytobnibdeimiinaa
open Go.RowKit

/-- copy of rows of whatever size, where its run is known. -/
theorem run_copy_rows {P : Program} (w : World) (dT sT ty elem : TypeId) (size : Nat) (b o dLen dCap : Nat) (a : Addr) (sLen sCap : Nat) (cs : List Value)
    (hu : P.underlying dT = some (.slice elem)) (hs : (P.info? elem).map (·.size) = some size) (hn : cs.length = Nat.min sLen dLen * size)
    (hsrc : ∀ j v, cs[j]? = some v → w.cell? (a.add j) = some v) (hc : ∀ j, j < cs.length → (w.cell? ⟨b, o + j, none⟩).isSome = true) (hf : ∀ j, j < cs.length → w.frozen? ⟨b, o + j, none⟩ = false) (h1 : ∀ v ∈ cs, v.oneCell' = true) :
    (Builtin.copy_ #[dT, sT] ty #[.slice (some ⟨b, o, none⟩) dLen dCap, .slice (some a) sLen sCap]).run P w = .ok (goInt (Nat.min sLen dLen)) (w.setCells b o cs) := by
  have hl := run_loadCells_list (P := P) w a cs hsrc
  have hst := run_storeCells_cells (P := P) b o cs 0 w (by simpa using hc) (by simpa using hf) h1
  cases hq : P.info? elem with
  | none => simp [hq] at hs
  | some i =>
    have hi : i.size = size := by simpa [hq] using hs
    rw [hn] at hl
    simp [Builtin.copy_, run_underlying hu, Builtin.lenOf, Builtin.firstCells, sizeOf, typeInfo, hq, hi, hl, hst]
theorem step_copy_ran {P : Program} {ops : Array Oper} {o : Oper} {a : Act} {w : World} {K : Act → World → Prop} {Q : Exit → Act → World → Prop} {E : Prop} (hg : o.guard = none) (d x : Operand) (dT sT : TypeId)
    (hop : o.op = .call { callee := .builtin .copy, args := #[d, x], argTypes := #[dT, sT] }) {v u : Value} (hd : a.eval d = v) (hx : a.eval x = u) {v' : Value} {w' : World} (hr : (Builtin.copy_ #[dT, sT] o.type #[v, u]).run P w = .ok v' w') (hK : K (a.put o.dst v') w') :
    if Region.wanted o (yielded ops a.tmps) = true then Oper.wp P o a w K Q else E := by
  rw [if_pos (by simp [Region.wanted, hg])]
  unfold Oper.wp
  simp [execOp, hop, resolve, invoke, builtin, hd, hx, hr, Result.andThen]
  exact hK
theorem wpList_copy_ran {P : Program} (w : World) {ops : Array Oper} {rest : List Oper} {o : Oper} {a : Act} {Q : Exit → Act → World → Prop} (hg : o.guard = none) (d x : Operand) (dT sT : TypeId)
    (hop : o.op = .call { callee := .builtin .copy, args := #[d, x], argTypes := #[dT, sT] }) (v u : Value) (hd : a.eval d = v) (hx : a.eval x = u) {v' : Value} {w' : World} (hr : (Builtin.copy_ #[dT, sT] o.type #[v, u]).run P w = .ok v' w') (h : wpList P ops Q rest (a.put o.dst v') w') : wpList P ops Q (o :: rest) a w := by
  refine wpList_plain hg fun K hK => ?_
  unfold Oper.wp
  simp [execOp, hop, resolve, invoke, builtin, hd, hx, hr, Result.andThen]
  exact hK _ _ h
theorem keeps_setCellsN (w : World) (b o : Nat) (vs : List Value) : Keeps w (w.setCells b o vs) (fun x => x = b) := by
  induction vs generalizing w o with
  | nil => exact Keeps.refl _ _
  | cons v r ih => exact (Keeps.set w ⟨b, o, none⟩ v).trans (ih _ _) (fun _ h => h) (fun _ _ h => h)
theorem block_setCell {w : World} {g : Nat} {cur : Array Value} {t : TypeId} {fr : Nat × Nat} (h : w.heap[g]? = some (.cells cur t fr)) (o : Nat) (v : Value) : ∃ cur', (w.setCell ⟨g, o, none⟩ v).heap[g]? = some (.cells cur' t fr) ∧ cur'.size = cur.size := by
  refine ⟨cur.setIfInBounds o v, ?_, by simp⟩
  simp [World.setCell, Array.getElem?_modify, h]
theorem block_setCells (g : Nat) (t : TypeId) (fr : Nat × Nat) : ∀ (vs : List Value) (o : Nat) (w : World) (cur : Array Value), w.heap[g]? = some (.cells cur t fr) → ∃ cur', (w.setCells g o vs).heap[g]? = some (.cells cur' t fr) ∧ cur'.size = cur.size
  | [], _, _, cur, h => ⟨cur, h, rfl⟩
  | v :: r, o, w, cur, h => by
    obtain ⟨c1, h1, e1⟩ := block_setCell h o v
    obtain ⟨c2, h2, e2⟩ := block_setCells g t fr r (o + 1) _ c1 h1
    exact ⟨c2, h2, e2.trans e1⟩
theorem owns_of_cells {w : World} {base g cap n size : Nat} {e : TypeId} {xs : List Value} {cur : Array Value} (hb : base ≤ g) (hh : w.heap[g]? = some (.cells cur e (0, 0))) (hn : n ≤ cap) (hm : cap ≤ maxLen) (hs : cur.size = cap * size) (hl : xs.length = n * size)
    (hc : ∀ j, (hj : j < xs.length) → w.cell? ⟨g, j, none⟩ = some xs[j]) : w.ownsRow base e size (.slice (some ⟨g, 0, none⟩) n cap) n xs := by
  refine ⟨hl, .inr ⟨g, cap, cur, rfl, hb, hh, hn, hm, hs, ?_⟩⟩
  have hle : n * size ≤ cap * size := Nat.mul_le_mul_right _ hn
  apply List.ext_getElem
  · simp only [List.length_take, Array.length_toList, hs, hl]; omega
  · intro j h1 h2
    have h3 := hc j h2
    simp only [World.cell?, hh] at h3
    have h4 : j < cur.size := by omega
    simp only [List.getElem_take, Array.getElem_toList]
    simpa [h4] using h3
theorem OwnZ.block {w : World} {base g cap : Nat} {l : List Zn} (h : OwnZ w base g cap l) : ∃ cur : Array Value, w.heap[g]? = some (.cells cur 39 (0, 0)) ∧ cur.size = cap * 9 := by
  rcases h.2 with ⟨hv, -⟩ | ⟨g', c, cur, hv, hb, hh, h1, h2, h3, -⟩
  · cases hv
  · simp only [Value.slice.injEq, Option.some.injEq, Addr.mk.injEq, and_true, true_and] at hv
    obtain ⟨rfl, rfl⟩ := hv
    exact ⟨cur, hh, h3⟩
/-- What two copies leave: a zone is put in. -/
theorem shifted {w w0 : World} {base g cap i : Nat} {l : List Zn} {z : Zn} (h : OwnZ w base g cap l) (hi : i ≤ l.length) (hr : l.length + 1 ≤ cap) (e0 : w0 = w.drew) :
    OwnZ ((w0.setCells g ((i + 1) * 9) (znR (l.drop i))).setCells g (i * 9) (znV z)) base g cap (l.take i ++ z :: l.drop i) ∧ Keeps w ((w0.setCells g ((i + 1) * 9) (znR (l.drop i))).setCells g (i * 9) (znV z)) (fun x => x = g) := by
  obtain ⟨cur, hh, hs⟩ := h.block
  obtain ⟨f1, f2, f3, f4⟩ := h.facts
  subst e0
  have hlen : (l.take i ++ z :: l.drop i).length = l.length + 1 := by simp; omega
  have hdl : (znR (l.drop i)).length = (l.length - i) * 9 := by rw [znR_length, List.length_drop]
  have hh' : w.drew.heap[g]? = some (.cells cur 39 (0, 0)) := hh
  have hcell : ∀ j, j < cap * 9 → (w.drew.cell? ⟨g, j, none⟩).isSome = true := fun j hj => by
    simp only [World.cell?, hh', Array.getElem?_eq_getElem (show j < cur.size by omega)]
    simp
  obtain ⟨c1, hc1, e1⟩ := block_setCells g 39 (0, 0) (znR (l.drop i)) ((i + 1) * 9) _ cur hh'
  obtain ⟨c2, hc2, e2⟩ := block_setCells g 39 (0, 0) (znV z) (i * 9) _ c1 hc1
  have hold : ∀ j, j < l.length * 9 → w.drew.cell? ⟨g, j, none⟩ = (znR l)[j]? := fun j hj => h.cellAt j hj
  have hsp : znR l = znR (l.take i) ++ znR (l.drop i) := by rw [← znR_append, List.take_append_drop]
  have htl : (znR (l.take i)).length = i * 9 := by rw [znR_length, List.length_take, Nat.min_eq_left hi]
  refine ⟨?_, ?_⟩
  · unfold OwnZ
    rw [hlen]
    refine owns_of_cells f1 hc2 hr (by unfold maxLen; omega) (by omega) (by rw [znR_length, hlen]) ?_
    intro j hj
    rw [znR_length, hlen] at hj
    rw [← List.getElem?_eq_getElem, znR_append, znR_cons]
    by_cases hji : j < i * 9
    · rw [World.cell?_setCells_out g _ _ _ _ (fun _ _ => .inl hji), World.cell?_setCells_out g _ _ _ _ (fun _ _ => .inl (show j < (i + 1) * 9 by omega)), hold j (by omega), List.getElem?_append_left (by omega), hsp, List.getElem?_append_left (by omega)]
    · obtain ⟨k, rfl⟩ : ∃ k, j = i * 9 + k := ⟨j - i * 9, by omega⟩
      rw [List.getElem?_append_right (by omega), htl, show i * 9 + k - i * 9 = k from by omega]
      by_cases hk : k < 9
      · rw [World.cell?_setCells_in g _ _ _ (fun q hq => by
          rw [znV_length] at hq
          exact World.isSome_setCells g _ _ _ _ (hcell _ (by omega))) k (by rw [znV_length]; exact hk), List.getElem?_append_left (by rw [znV_length]; exact hk), List.getElem?_eq_getElem]
      · obtain ⟨q, rfl⟩ : ∃ q, k = 9 + q := ⟨k - 9, by omega⟩
        rw [World.cell?_setCells_out g _ _ _ _ (fun _ _ => .inr (by rw [znV_length]; show i * 9 + 9 ≤ i * 9 + (9 + q); omega))]
        rw [show i * 9 + (9 + q) = (i + 1) * 9 + q by omega]
        rw [World.cell?_setCells_in g _ _ _ (fun x hx => hcell _ (by rw [hdl] at hx; omega)) q (by rw [hdl]; omega), List.getElem?_append_right (by rw [znV_length]; omega), znV_length, show 9 + q - 9 = q by omega, List.getElem?_eq_getElem]
  · have k0 : Keeps w w.drew (fun x => x = g) := ⟨rfl, rfl, rfl, Nat.le_refl _, fun _ _ _ => rfl⟩
    exact (k0.trans (keeps_setCellsN _ g _ _) (fun _ h => h) (fun _ _ h => h)).trans (keeps_setCellsN _ g _ _) (fun _ h => h) (fun _ _ h => h)
end Go.Proofs.Ytobnibdeimiinaa
