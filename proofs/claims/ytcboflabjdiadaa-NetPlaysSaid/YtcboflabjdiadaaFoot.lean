/- Append to a slice of the call's own: the new slice lies in the old block or in a new one. -/
import Derived.Test.YtcboflabjdiadaaOwn
import Derived.ArgAppend
import Derived.Deep.AppendLies
namespace Go.Proofs.Ytcboflabjdiadaa
open Go.RowKit

theorem grown_weak {w w' : World} {row : Option Nat} (h : w.grownBy w' none) : w.grownBy w' row := ⟨h.os, h.tape, h.output, h.size, fun k hk _ => h.block k hk (by simp)⟩
theorem owns_weak {w : World} {b b' : Nat} {e : TypeId} {size n : Nat} {v : Value} {xs : List Value} (h : w.ownsRow b e size v n xs) (hb : b' ≤ b) : w.ownsRow b' e size v n xs := by
  refine ⟨h.1, ?_⟩
  rcases h.2 with h | ⟨g, cap, cur, h1, h2, h3⟩
  · exact .inl h
  · exact .inr ⟨g, cap, cur, h1, Nat.le_trans hb h2, h3⟩
theorem owns_shape {w : World} {b : Nat} {e : TypeId} {size n : Nat} {v : Value} {xs : List Value} (h : w.ownsRow b e size v n xs) : ∃ ao cap, v = .slice ao n cap ∧ ∀ g, ao = some g → b ≤ g.block := by
  rcases h.2 with ⟨h1, h2⟩ | ⟨g, cap, cur, h1, h2, -⟩
  · exact ⟨none, 0, by rw [h1, h2], fun g hg => by cases hg⟩
  · exact ⟨_, cap, h1, fun g' hg => by simp only [Option.some.injEq] at hg; subst hg; exact h2⟩
theorem wpList_append_foot {P : Program} (w : World) {ops : Array Oper} {rest : List Oper} {o : Oper} {a : Act} {Q : Exit → Act → World → Prop} (hgd : o.guard = none) (s x : Operand) (t : TypeId)
    (ho : o.op = .call { callee := .builtin .append, args := #[s, x], argTypes := #[t, t] })
    (base : Nat) (e : TypeId) (i : TypeInfo) (z : Value) (size bytes : Nat) (ht : P.underlying t = some (.slice e)) (hi : P.info? e = some i) (hz : i.zero = some z)
    (hsize : i.size = size) (hby : i.bytes = bytes) (hzs : z.cells.size = size) (hsz : 0 < size)
    (ao : Option Addr) (n cap : Nat) (xs : List Value) (hs : a.eval s = .slice ao n cap) (hown : w.ownsRow base e size (.slice ao n cap) n xs)
    (bo : Option Addr) (m c : Nat) (news : List Value) (hx : a.eval x = .slice bo m c) (hnone : bo = none → m = 0 ∧ c = 0) (hl : news.length = m * size) (hnews : ∀ ad, bo = some ad → ∀ j u, news[j]? = some u → w.cell? (ad.add j) = some u) (h1 : ∀ u ∈ news, u.oneCell' = true)
    (h63 : n + m ≤ maxLen) (hbytes : (n + m) * bytes ≤ 140737488355328) (hbase : base ≤ w.heap.size)
    (h : ∀ co c' w', w'.ownsRow base e size (.slice co (n + m) c') (n + m) (xs ++ news) → w.grownBy w' (Value.slice ao n cap).ownBlock → (∀ g, co = some g → ao = some g ∨ w.heap.size ≤ g.block) → wpList P ops Q rest (a.put o.dst (.slice co (n + m) c')) w') : wpList P ops Q (o :: rest) a w := by
  cases bo with
  | none =>
    obtain ⟨rfl, rfl⟩ := hnone rfl
    have hn : news = [] := by cases news with
      | nil => rfl
      | cons y r => simp at hl
    subst hn
    refine wpList_append_own_none hgd s x t ho base e i size ht hi _ n xs hs hown hx ?_
    exact h ao cap w (by simpa using hown) (World.grownBy.refl _ _) (fun g hg => .inl hg)
  | some ad =>
    by_cases hfit : n + m ≤ cap
    · rcases hown.2 with ⟨hv, h0⟩ | ⟨g, cap', cur, hv, -⟩
      · simp only [Value.slice.injEq] at hv
        obtain ⟨rfl, rfl, rfl⟩ := hv
        have hm : m = 0 := by omega
        subst hm
        refine wpList_append_own w hgd s x t ho base e i z size bytes ht hi hz hsize hby hzs hsz _ 0 xs hs hown ad 0 c news hx hl (hnews ad rfl) h1 h63 hbytes hbase fun v' w' a b ci => ?_
        have hv' := ci.2 ⟨rfl, rfl⟩
        subst hv'
        exact h none 0 w' a b (fun g hg => by cases hg)
      · simp only [Value.slice.injEq] at hv
        obtain ⟨rfl, -, rfl⟩ := hv
        exact wpList_append_fits w hgd s x t ho base e i size ht hi hsize g n _ xs hs hown ad m c news hx hl (hnews ad rfl) h1 hfit fun w' a b => h _ _ w' a b (fun g hg => .inl hg)
    · have hnn : ao = none → n = 0 ∧ cap = 0 := by
        intro e
        subst e
        rcases hown.2 with ⟨hv, h0⟩ | ⟨g, cap', cur, hv, -⟩
        · simp only [Value.slice.injEq] at hv; exact ⟨h0, hv.2.2⟩
        · simp at hv
      refine wpList_append_grows w hgd s x t ho e i z size bytes ht hi hz hsize hby hzs hsz ao n cap xs hs hnn hown.1 ?_ ad m c news hx hl (hnews ad rfl) h1 (by omega) h63 hbytes fun v' w' a b => ?_
      · intro b hb j u hu
        subst hb
        rcases hown.2 with ⟨hv, -⟩ | ⟨g, cap', cur, hv, -⟩
        · simp at hv
        · simp only [Value.slice.injEq, Option.some.injEq] at hv
          obtain ⟨rfl, -, rfl⟩ := hv
          have hj : j < n * size := by rw [← hown.1]; exact (List.getElem?_eq_some_iff.1 hu).1
          rw [add_none, Nat.zero_add, hown.cellAt j hj, hu]
      · obtain ⟨co, c', rfl, hco⟩ := owns_shape a
        exact h co c' w' (owns_weak a hbase) (grown_weak b) (fun g hg => .inr (hco g hg))
theorem step_append_any {P : Program} (w : World) {ops : Array Oper} {o : Oper} {a : Act} {K : Act → World → Prop} {Q : Exit → Act → World → Prop} {E : Prop} (hgd : o.guard = none) (s x : Operand) (t : TypeId)
    (ho : o.op = .call { callee := .builtin .append, args := #[s, x], argTypes := #[t, t] })
    (base : Nat) (e : TypeId) (i : TypeInfo) (z : Value) (size bytes : Nat) (ht : P.underlying t = some (.slice e)) (hi : P.info? e = some i) (hz : i.zero = some z)
    (hsize : i.size = size) (hby : i.bytes = bytes) (hzs : z.cells.size = size) (hsz : 0 < size)
    (v : Value) (n : Nat) (xs : List Value) (hs : a.eval s = v) (hown : w.ownsRow base e size v n xs)
    (ao : Option Addr) (m c : Nat) (news : List Value) (hx : a.eval x = .slice ao m c) (hnone : ao = none → m = 0 ∧ c = 0) (hl : news.length = m * size) (hnews : ∀ ad, ao = some ad → ∀ j u, news[j]? = some u → w.cell? (ad.add j) = some u) (h1 : ∀ u ∈ news, u.oneCell' = true)
    (h63 : n + m ≤ maxLen) (hbytes : (n + m) * bytes ≤ 140737488355328) (hbase : base ≤ w.heap.size)
    (h : ∀ v' w', w'.ownsRow base e size v' (n + m) (xs ++ news) → w.grownBy w' v.ownBlock → K (a.put o.dst v') w') :
    if Region.wanted o (yielded ops a.tmps) = true then Oper.wp P o a w K Q else E := by
  have hw : Region.wanted o (yielded ops a.tmps) = true := by simp [Region.wanted, hgd]
  rw [if_pos hw]
  cases ao with
  | none =>
    obtain ⟨rfl, rfl⟩ := hnone rfl
    have hn : news = [] := by cases news with
      | nil => rfl
      | cons y r => simp at hl
    subst hn
    have hrun := run_append_owned_none (P := P) (w := w) base t o.type e i size ht hi v n xs hown
    unfold Oper.wp execOp
    simp only [ho, resolve, invoke, builtin, Sem.run_bind, Sem.run_pure, Result.andThen_ok, List.map_toArray, List.map_cons, List.map_nil, hs, hx, hrun]
    exact h v w (by simpa using hown) ⟨rfl, rfl, rfl, Nat.le_refl _, fun _ _ _ => rfl⟩
  | some ad =>
    exact wp_append_own w s x t ho base e i z size bytes ht hi hz hsize hby hzs hsz v n xs hs hown ad m c news hx hl (hnews ad rfl) h1 h63 hbytes hbase fun v' w' a b _ => h v' w' a b
end Go.Proofs.Ytcboflabjdiadaa
