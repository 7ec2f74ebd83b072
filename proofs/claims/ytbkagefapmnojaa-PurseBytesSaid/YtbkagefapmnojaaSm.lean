/- Small lemmas: calls and appends at a region's step, the document's Nums, cells of blocks of the call's own, bytes as a string. -/
import Derived.Test.YtbkagefapmnojaaWrSt
import Derived.Test.YtbkagefapmnojaaRef
import Derived.Test.YtbkagefapmnojaaRdNums
import Derived.Laws.BytesArg
import Derived.Deep.DrawnRows
import Derived.Deep.RegionLaw
import Derived.Shelf.Bytes.SlSmallAll
namespace Go.Proofs.Ytbkagefapmnojaa
open Go.RowKit

theorem own_growO {w w' : World} {base : Nat} {ao : Option Addr} {cap : Nat} {l : List UInt8} (h : OwnB w base ao cap l) (b : Below w.heap.size w w') : OwnB w' base ao cap l := by
  refine ⟨h.1, ?_⟩
  rcases h.2 with h2 | ⟨g, c, cur, hv, hg, hh, r⟩
  · exact .inl h2
  · exact .inr ⟨g, c, cur, hv, hg, (b.block g (Array.getElem?_eq_some_iff.1 hh).1).trans hh, r⟩
theorem at_go {P : Program} {ops : Array Oper} {o : Oper} {a : Act} {w : World} {K : Act → World → Prop} {Q : Exit → Act → World → Prop} {E : Prop} (f : FuncId) (xs : Array Operand) (ts : Array TypeId) (_ : o.op = Op.call { callee := Callee.value (Operand.func f), args := xs, argTypes := ts }) (h : if Region.wanted o (yielded ops a.tmps) = true then Oper.wp P o a w K Q else E) : if Region.wanted o (yielded ops a.tmps) = true then Oper.wp P o a w K Q else E := h
theorem at_app {P : Program} {ops : Array Oper} {o : Oper} {a : Act} {w : World} {K : Act → World → Prop} {Q : Exit → Act → World → Prop} {E : Prop} (xs : Array Operand) (ts : Array TypeId) (_ : o.op = Op.call { callee := Callee.builtin Builtin.append, args := xs, argTypes := ts }) (h : if Region.wanted o (yielded ops a.tmps) = true then Oper.wp P o a w K Q else E) : if Region.wanted o (yielded ops a.tmps) = true then Oper.wp P o a w K Q else E := h
theorem bstep {a b c : World} (h : Below a.heap.size a b) (k : Below b.heap.size b c) : Below a.heap.size a c := h.trans (k.mono h.size)
theorem refNums_lit (vs : List Int) (w : World) (n k : Nat) (cur : Array Value) (hn : n = w.heap.size) (hk : k = vs.length) (hc : cur = (intV vs).toArray) (hm : vs.length ≤ 1000000) :
    Calls Try.prog 34 #[.slice (some ⟨n, 0, none⟩) k k] (w.alloc (.cells cur 3)) fun e w' => ∃ ao cap, e = .returned (.slice ao (encs vs).length cap) ∧ OwnB w' w.heap.size ao cap (encs vs) ∧ Below w.heap.size w w' := by
  subst hn hk
  refine (refNums_any (some ⟨w.heap.size, 0, none⟩) vs.length vs _ (fun _ => ⟨w.heap.size, 0, rfl, by simp, irow_obj (heap_new w _) hc⟩) hm).mono ?_
  rintro e w' ⟨ao, cap, rfl, ho, hb⟩
  exact ⟨ao, cap, rfl, own_weak ho (by simp), (below_allocO w _).trans (hb.mono (by simp))⟩
theorem refNums_eq (vs : List Int) (w : World) (n k : Nat) (cur : Array Value) (hn : n = w.heap.size) (hk : k = vs.length) (hc : cur = (intV vs).toArray) (hm : vs.length ≤ 1000000) (X : List UInt8) (hX : encs vs = X) :
    Calls Try.prog 34 #[.slice (some ⟨n, 0, none⟩) k k] (w.alloc (.cells cur 3)) (FreshB w X) := by
  subst hX; exact refNums_lit vs w n k cur hn hk hc hm
theorem refNums_in (vs : List Int) (w : World) (n k : Nat) (cur : Array Value) (hh : w.heap[n]? = some (.cells cur 3 (0, 0))) (hk : k = vs.length) (hc : cur = (intV vs).toArray) (hm : vs.length ≤ 1000000) (X : List UInt8) (hX : encs vs = X) :
    Calls Try.prog 34 #[.slice (some ⟨n, 0, none⟩) k k] w (FreshB w X) := by
  subst hk hX
  exact refNums_any (some ⟨n, 0, none⟩) vs.length vs _ (fun _ => ⟨n, 0, rfl, lt_of_block hh, irow_obj hh hc⟩) hm
theorem stay_mk {w3 W : World} (hb : Below w3.heap.size w3 W) : Below w3.heap.size w3 W ∧ ∀ b o', b < w3.heap.size → W.cell? ⟨b, o', none⟩ = w3.cell? ⟨b, o', none⟩ :=
  ⟨hb, fun b o' h => hb.cell (p := ⟨b, o', none⟩) h⟩
theorem St.cellsN {W w : World} {L : List Th} (h : St W w L) (i : Nat) {b : Nat} {cur : Array Value} {t : TypeId} (hi : L[i]? = some (thObj b (.cells cur t (0, 0)))) : b < w.heap.size ∧ (∀ j, w.cell? ⟨b, j, none⟩ = cur[j]?) ∧ ∀ j, w.frozen? ⟨b, j, none⟩ = false := h.cells (List.mem_of_getElem? hi)
theorem etaN (t : Nat × List UInt8 × Bool) : t = (t.1, t.2.1, t.2.2) := rfl
theorem rd_step (l : List UInt8) (b : Bool) (k j : Nat) (hj : j = k + 1) : numT (rdSt l b k).1 (rdSt l b k).2 = (rdVal l b k, (rdSt l b j).1, (rdSt l b j).2) := by subst hj; exact etaN _
/-- A slice's bytes as a string. -/
theorem conv_str {w : World} {ao : Option Addr} {l : List UInt8} (h : BAt w ao l) (c : Nat) : (convert 35 9 (.slice ao l.length c)).run Try.prog w = .ok (.string ⟨l.toArray⟩) w := by
  by_cases hp : 0 < l.length
  · obtain ⟨b, off, rfl, -, hr⟩ := h hp
    have := run_convert_bytes_arg (P := Try.prog) w 35 5 Try.underlying35 Try.underlying5 b off l.length c (l.map fun c => (c.toNat : Int)) (by simp) (fun i hi => by
      rw [hr i hi]; simp [List.getD, hi]) 9 Try.underlying9
    rw [this]
    congr 2
    simp [strOfNums, Function.comp_def]
  · have : l = [] := List.length_eq_zero_iff.1 (by omega)
    subst this
    exact run_convert_bytes_zero w 35 5 Try.underlying35 Try.underlying5 ao c 9 Try.underlying9
end Go.Proofs.Ytbkagefapmnojaa
