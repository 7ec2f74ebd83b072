/- Texts put together: Kit, Open, Own, Foot, Bytes, Bw, Help, Ths, Perm, ThO. -/
import Derived.Test.YtobnibdeimiinaaChecked
import Derived.WalkKit
import Derived.WalkSpells
import Derived.WalkLawsBesides
import Derived.Outline
import Derived.Deep.RegionHeld3
import Derived.RegionTactic
import Derived.BigRegion
import Derived.BigQuiet
import Derived.Lib.Hide
import Derived.StillTailTactics
import Derived.ProofKit
import Derived.OpenShut
import Derived.ShutString
import Derived.Lib.SmallJoins
import Derived.Deep.Slices
import Derived.Deep.Fields
import Derived.ChangeSame
import Derived.SizedLaws
import Derived.Laws.AppendOwnNone
import Derived.ArgAppend
import Derived.Deep.AppendLies
import Derived.Lib.SlBytesConst

/- Small lemmas of the walks: naming the world at hand; what a contract that ends in 'Below' leaves of old cells; the condition of a region that only grows the world. -/
namespace Go.Proofs.Ytobnibdeimiinaa
open Go.RowKit

theorem bcell {W w1 : World} (hb : Below W.heap.size W w1) : (∀ b o, b < W.heap.size → w1.cell? ⟨b, o, none⟩ = W.cell? ⟨b, o, none⟩) ∧ (∀ b o, b < W.heap.size → w1.frozen? ⟨b, o, none⟩ = W.frozen? ⟨b, o, none⟩) :=
  ⟨fun b o h => hb.cell (p := ⟨b, o, none⟩) h, fun b o h => hb.frozen (p := ⟨b, o, none⟩) h⟩

@[go_sem] theorem lt_two (n : Nat) : n < n + 1 + 1 := by omega
@[go_sem] theorem lt_three (n : Nat) : n < n + 1 + 1 + 1 := by omega
@[go_sem] theorem lt_four (n : Nat) : n < n + 1 + 1 + 1 + 1 := by omega
@[go_sem] theorem lt_five (n : Nat) : n < n + 1 + 1 + 1 + 1 + 1 := by omega
@[go_sem] theorem lt_six (n : Nat) : n < n + 1 + 1 + 1 + 1 + 1 + 1 := by omega
theorem below_drawn {B : Nat} {a w : World} {n : Nat} (h : Below B a w) : Below B a (w.drewN n) := ⟨h.os, h.tape, h.output, h.size, h.block⟩
theorem calls_name {P : Program} {f : FuncId} {args : Array Value} {R : Ending → World → Prop} {w : World} (h : ∀ w3, w3 = w → Calls P f args w3 R) : Calls P f args w R := h w rfl
theorem wp_name {P : Program} {c : Code} {Q : Exit → Act → World → Prop} {a : Act} {w : World} (h : ∀ w3, w3 = w → c.wp P Q a w3) : c.wp P Q a w := h w rfl
theorem stay_drew (w3 : World) : Below w3.heap.size w3 w3.drew ∧ ∀ b o, b < w3.heap.size → w3.drew.cell? ⟨b, o, none⟩ = w3.cell? ⟨b, o, none⟩ :=
  ⟨(Below.refl _ _).drew, fun _ _ _ => rfl⟩
theorem stay_mk {w3 W : World} (hb : Below w3.heap.size w3 W) : Below w3.heap.size w3 W ∧ ∀ b o', b < w3.heap.size → W.cell? ⟨b, o', none⟩ = w3.cell? ⟨b, o', none⟩ :=
  ⟨hb, fun b o' h => hb.cell (p := ⟨b, o', none⟩) h⟩
theorem stay_below {w3 W : World} (h : Below w3.heap.size w3 W ∧ ∀ b o, b < w3.heap.size → W.cell? ⟨b, o, none⟩ = w3.cell? ⟨b, o, none⟩) : Below w3.heap.size w3 W := h.1
theorem stay_next {w3 W W' : World} (h : Below w3.heap.size w3 W ∧ ∀ b o, b < w3.heap.size → W.cell? ⟨b, o, none⟩ = w3.cell? ⟨b, o, none⟩) (hb : Below W.heap.size W W') :
    Below w3.heap.size w3 W' ∧ ∀ b o, b < w3.heap.size → W'.cell? ⟨b, o, none⟩ = w3.cell? ⟨b, o, none⟩ :=
  ⟨h.1.trans (hb.mono h.1.size), fun b o hbo => (bcell (h.1.trans (hb.mono h.1.size))).1 b o hbo⟩


/-! A region that draws its order, whose operations read what stood there when it began, and whose callees only grow the world: one walk of the lexical order (the class of worlds: those that grew out of w). -/
structure Gr (w : World) where
  to : World
  below : Below w.heap.size w to
instance grThere (w : World) : Nonempty (Gr w) := ⟨⟨w, Below.refl _ _⟩⟩
def gr (w : World) (g : Gr w) : World := g.to
@[go_sem] theorem gr_cell (w : World) (g : Gr w) (b o : Nat) (h : b < w.heap.size) : (gr w g).cell? ⟨b, o, none⟩ = w.cell? ⟨b, o, none⟩ := g.below.cell (p := ⟨b, o, none⟩) h
@[go_sem] theorem gr_frozen (w : World) (g : Gr w) (b o : Nat) (h : b < w.heap.size) : (gr w g).frozen? ⟨b, o, none⟩ = w.frozen? ⟨b, o, none⟩ := g.below.frozen (p := ⟨b, o, none⟩) h
theorem gr_below (w : World) (g : Gr w) : Below w.heap.size w (gr w g) := g.below
theorem gr_le (w : World) (g : Gr w) : w.heap.size ≤ (gr w g).heap.size := g.below.size
theorem wp_region_gr {P : Program} {id : Nat} {Q : Exit → Act → World → Prop} {a : Act} {w : World} {l : List Oper} (hm : P.follows .mixedOrders = true) (hB : Region.lexB .any l.toArray = true)
    (h : wpQuiet P l.toArray (fun w' => ∃ g, w' = gr w g) (fun a' => ∀ w', (∃ g, w' = gr w g) → Q .normal a' w') l a) : (Code.region id l.toArray true).wp P Q a w :=
  wp_region_quiet (C := fun w' => ∃ g, w' = gr w g) hm hB ⟨⟨w.drew, (Below.refl _ _).drew⟩, rfl⟩ (by simpa using h)
theorem calls_bool {P : Program} {f : FuncId} {args : Array Value} {w : World} {R : World → Prop} {b v : Bool} (h : b = v) (hc : Calls P f args w fun e w' => e = .returned (.bool b) ∧ R w') : Calls P f args w fun e w' => e = .returned (.bool v) ∧ R w' := h ▸ hc
theorem calls_gr {P : Program} {f : FuncId} {args : Array Value} {w : World} {g : Gr w} {v : Value}
    (h : Calls P f args (gr w g) fun e w' => e = .returned v ∧ Below (gr w g).heap.size (gr w g) w') : Calls P f args (gr w g) fun e w'' => e = .returned v ∧ ∃ m, w'' = gr w m :=
  h.mono fun _ w' ⟨he, hb⟩ => ⟨he, ⟨w', g.below.trans (hb.mono g.below.size)⟩, rfl⟩
end Go.Proofs.Ytobnibdeimiinaa

/- Arguments opened: slices of structs of one-cell fields (after the guide's block), lists out of 'for each place there is one'. -/
namespace Go.Proofs.Ytobnibdeimiinaa
open Go.ChangeShapes Go.WideShapes Go.Deep
theorem choose_list {α : Type} {P : Nat → α → Prop} (n : Nat) (h : ∀ i, i < n → ∃ a, P i a) : ∃ l : List α, l.length = n ∧ ∀ i, (hi : i < l.length) → P i l[i] := by
  induction n with
  | zero => exact ⟨[], rfl, fun i hi => by simp at hi⟩
  | succ n ih =>
    obtain ⟨l, hl, hp⟩ := ih fun i hi => h i (by omega)
    obtain ⟨a, ha⟩ := h n (by omega)
    refine ⟨l ++ [a], by simp [hl], fun i hi => ?_⟩
    by_cases e : i < l.length
    · rw [List.getElem_append_left e]; exact hp i e
    · have : i = n := by simp at hi; omega
      subst this
      rw [List.getElem_append_right (by omega)]
      simpa [hl] using ha
section
variable {H : Type} {enc : TypeId × Value → H} {P : Program} {w : World} {base : Nat} {spare : Nat → Bool} {held : Bool}
theorem open_slice_fields {t e : TypeId} {fs : Array Field} {fuel : Nat} {cs : List Value} {x : DataW H × List MemPlace} (ht : P.underlying t = some (.slice e)) (he : P.underlying e = some (.struct fs))
    (hone : oneCellFields P fs = true) (hC : P.cellsOf e = fs.size) (h : DataW.trod enc P w base spare held fuel t cs = some x) :
    (cs = [.slice none 0 0] ∧ x = (.nil, [])) ∨
    ∃ (a : Addr) (len cap m : Nat) (D : Nat → DataW H) (Pl : Nat → List MemPlace), cs = [.slice (some a) len cap] ∧ base ≤ a.block ∧ len ≤ cap ∧ cap ≤ maxLen ∧ m = (if spare a.block then cap else len) ∧
      x = (.slice ((List.range len).map D) ((List.range (m - len)).map fun j => D (len + j)), MemPlace.row a (m * fs.size) ++ (List.range m).flatMap Pl) ∧
      ∀ i, i < m → ∃ (ys : List (DataW H × List MemPlace)) (n : Nat), D i = .agg (ys.map (·.1)) ∧ Pl i = ys.flatMap (·.2) ∧ ys.length = fs.size ∧
        ∀ (j : Nat) (f : Field), fs[j]? = some f → ∃ (v : Value) (y : DataW H × List MemPlace), w.cell? (a.add (i * fs.size + j)) = some v ∧ ys[j]? = some y ∧ DataW.trod enc P w base spare held n f.type [v] = some y := by
  rcases open_slice ht h with h0 | ⟨a, len, cap, m, n, D, Pl, hcs, hb, hl, hm, hmm, hx, hi⟩
  · exact .inl h0
  · refine .inr ⟨a, len, cap, m, D, Pl, hcs, hb, hl, hm, hmm, by rw [hC] at hx; exact hx, fun i him => ?_⟩
    obtain ⟨cs', hc, ht'⟩ := hi i him
    rw [hC] at hc
    obtain ⟨ys, n', hn', hy, hlen, hyl, hf⟩ := DataW.trod_struct he ht'
    obtain ⟨_, hcl, hat⟩ := World.cells?_some hc
    simp only [Prod.mk.injEq] at hy
    refine ⟨ys, n', hy.1, hy.2, hyl, fun j f hj => ?_⟩
    obtain ⟨ho, hk⟩ := hone_of hone j f hj
    have hjl : j < fs.size := (Array.getElem?_eq_some_iff.1 hj).1
    have hcell := hat j hjl
    have hv : cs'[j]? = some (cs'[j]'(by omega)) := List.getElem?_eq_getElem (by omega)
    have h1 := hf j f hj
    rw [ho, hk] at h1
    have hone' : (cs'.drop j).take 1 = [cs'[j]'(by omega)] := by
      rw [List.drop_eq_getElem_cons (by omega)]
      rfl
    rw [hone'] at h1
    have hys : ys[j]? = some (ys[j]'(by omega)) := List.getElem?_eq_getElem (by omega)
    refine ⟨_, _, ?_, hys, h1.trans hys⟩
    rw [← Go.Deep.add_add, hcell, hv]
end
/-- The form's reach: a slice that came in takes fewer than 2^47 bytes. -/
theorem slice_reach {H : Type} {enc : TypeId × Value → H} {P : Program} {w : World} {ts : List TypeId} {ds : List (DataW H)} (hsz : (DataW.weightsEach P ts ds).all (· ≤ reachBytes) = true) {j : Nat} {t e : TypeId} {ao : Option Addr} {n c : Nat} {d : DataW H} {p : List MemPlace}
    (ht : ts[j]? = some t) (hd : ds[j]? = some d) (hu : P.underlying t = some (.slice e)) (h : DataW.Trod enc P w 0 (fun _ => true) true t (.slice ao n c) d p) : n * P.bytesOf e ≤ 140737488351232 := by
  obtain ⟨fuel, hf⟩ := h
  rcases DataW.trod_slice hu hf with ⟨hcs, -⟩ | ⟨a, len, cap, elems, rest, m, -, hcs, hx, -, -, -, hlen, -⟩
  · simp [Value.cells] at hcs
    rw [hcs.2.1]; omega
  · simp [Value.cells] at hcs
    simp only [Prod.mk.injEq] at hx
    have := sized_slice hsz ht (hx.1 ▸ hd) hu
    simp only [List.length_map, reachBytes] at this
    have h2 : n * P.bytesOf e ≤ (elems.length + rest.length) * P.bytesOf e := Nat.mul_le_mul_right _ (by omega)
    omega
end Go.Proofs.Ytobnibdeimiinaa

/- Small lemmas on slices that the call itself made. -/
namespace Go.Proofs.Ytobnibdeimiinaa
open Go.RowKit

theorem add_none (b off j : Nat) : (⟨b, off, none⟩ : Addr).add j = ⟨b, off + j, none⟩ := by
  unfold Addr.add
  split
  · rename_i h; subst h; rfl
  · rfl
theorem heap_new (w : World) (o : Obj) : (w.alloc o).heap[w.heap.size]? = some o := (MapKept.heap_alloc w o).1
/-- '[]T{}': an empty slice, not nil. -/
theorem owns_empty (w : World) (base : Nat) (h : base ≤ w.heap.size) (e : TypeId) (size : Nat) : (w.alloc (.cells #[] e)).ownsRow base e size (.slice (some ⟨w.heap.size, 0, none⟩) 0 0) 0 [] :=
  ⟨by simp, .inr ⟨w.heap.size, 0, #[], rfl, h, heap_new w _, Nat.le_refl _, by simp [maxLen], by simp, by simp⟩⟩
theorem owns_emptyAt (w : World) (n : Nat) (hn : n = w.heap.size) (base : Nat) (h : base ≤ n) (e : TypeId) (size : Nat) : (w.alloc (.cells #[] e)).ownsRow base e size (.slice (some ⟨n, 0, none⟩) 0 0) 0 [] := by
  subst hn; exact owns_empty w base h e size
theorem bcellB {B : Nat} {W w1 : World} (hb : Below B W w1) : (∀ b o, b < B → w1.cell? ⟨b, o, none⟩ = W.cell? ⟨b, o, none⟩) ∧ (∀ b o, b < B → w1.frozen? ⟨b, o, none⟩ = W.frozen? ⟨b, o, none⟩) :=
  ⟨fun b o h => hb.cell (p := ⟨b, o, none⟩) h, fun b o h => hb.frozen (p := ⟨b, o, none⟩) h⟩
theorem below_grown {B : Nat} {w w1 w2 : World} {row : Option Nat} (h : Below B w w1) (hB : B ≤ w1.heap.size) (hg : w1.grownBy w2 row) (hr : ∀ k, row = some k → B ≤ k) : Below B w w2 := h.grown hg hB hr
theorem own_block {v : Value} {B k : Nat} {w : World} {e : TypeId} {size n : Nat} {xs : List Value} (h : w.ownsRow B e size v n xs) (hk : v.ownBlock = some k) : B ≤ k := by
  rcases h.2 with ⟨rfl, -⟩ | ⟨g, cap, cur, rfl, hg, -⟩
  · simp [Value.ownBlock] at hk
  · simp [Value.ownBlock] at hk; omega
/-- 'append(own, src...)' from whatever source: nil, empty, or one with elements. -/
theorem wpList_append_any {P : Program} (w : World) {ops : Array Oper} {rest : List Oper} {o : Oper} {a : Act} {Q : Exit → Act → World → Prop} (hgd : o.guard = none) (s x : Operand) (t : TypeId)
    (ho : o.op = .call { callee := .builtin .append, args := #[s, x], argTypes := #[t, t] })
    (base : Nat) (e : TypeId) (i : TypeInfo) (z : Value) (size bytes : Nat) (ht : P.underlying t = some (.slice e)) (hi : P.info? e = some i) (hz : i.zero = some z)
    (hsize : i.size = size) (hby : i.bytes = bytes) (hzs : z.cells.size = size) (hsz : 0 < size)
    (v : Value) (n : Nat) (xs : List Value) (hs : a.eval s = v) (hown : w.ownsRow base e size v n xs)
    (ao : Option Addr) (m c : Nat) (news : List Value) (hx : a.eval x = .slice ao m c) (hnone : ao = none → m = 0 ∧ c = 0) (hl : news.length = m * size) (hnews : ∀ ad, ao = some ad → ∀ j u, news[j]? = some u → w.cell? (ad.add j) = some u) (h1 : ∀ u ∈ news, u.oneCell' = true)
    (h63 : n + m ≤ maxLen) (hbytes : (n + m) * bytes ≤ 140737488355328) (hbase : base ≤ w.heap.size)
    (h : ∀ v' w', w'.ownsRow base e size v' (n + m) (xs ++ news) → w.grownBy w' v.ownBlock → wpList P ops Q rest (a.put o.dst v') w') : wpList P ops Q (o :: rest) a w := by
  cases ao with
  | none =>
    obtain ⟨rfl, rfl⟩ := hnone rfl
    have hn : news = [] := by cases news with
      | nil => rfl
      | cons y r => simp at hl
    subst hn
    refine wpList_append_own_none hgd s x t ho base e i size ht hi v n xs hs hown hx ?_
    exact h v w (by simpa using hown) ⟨rfl, rfl, rfl, Nat.le_refl _, fun _ _ _ => rfl⟩
  | some ad => exact wpList_append_own w hgd s x t ho base e i z size bytes ht hi hz hsize hby hzs hsz v n xs hs hown ad m c news hx hl (hnews ad rfl) h1 h63 hbytes hbase fun v' w' a b _ => h v' w' a b
end Go.Proofs.Ytobnibdeimiinaa

/- Append to a slice of the call's own: the new slice lies in the old block or in a new one. -/
namespace Go.Proofs.Ytobnibdeimiinaa
open Go.RowKit

theorem grown_weak {w w' : World} {row : Option Nat} (h : w.grownBy w' none) : w.grownBy w' row := ⟨h.os, h.tape, h.output, h.size, fun k hk _ => h.block k hk (by simp)⟩
theorem owns_weak {w : World} {b b' : Nat} {e : TypeId} {size n : Nat} {v : Value} {xs : List Value} (h : w.ownsRow b e size v n xs) (hb : b' ≤ b) : w.ownsRow b' e size v n xs := by
  refine ⟨h.1, ?_⟩
  rcases h.2 with h | ⟨g, cap, cur, h1, h2, h3⟩
  · exact .inl h
  · exact .inr ⟨g, cap, cur, h1, Nat.le_trans hb h2, h3⟩
theorem owns_shape {w : World} {b : Nat} {e : TypeId} {size n : Nat} {v : Value} {xs : List Value} (h : w.ownsRow b e size v n xs) : ∃ ao cap, v = .slice ao n cap ∧ ∀ g, ao = some g → b ≤ g.block := by
  rcases h.2 with ⟨h1, h2⟩ | ⟨g, cap, cur, h1, h2, -⟩
  · exact ⟨none, 0, by rw [h1, h2], fun g hg => by cases hg⟩
  · exact ⟨_, cap, h1, fun g' hg => by simp only [Option.some.injEq] at hg; subst hg; exact h2⟩
theorem wpList_append_foot {P : Program} (w : World) {ops : Array Oper} {rest : List Oper} {o : Oper} {a : Act} {Q : Exit → Act → World → Prop} (hgd : o.guard = none) (s x : Operand) (t : TypeId)
    (ho : o.op = .call { callee := .builtin .append, args := #[s, x], argTypes := #[t, t] })
    (base : Nat) (e : TypeId) (i : TypeInfo) (z : Value) (size bytes : Nat) (ht : P.underlying t = some (.slice e)) (hi : P.info? e = some i) (hz : i.zero = some z)
    (hsize : i.size = size) (hby : i.bytes = bytes) (hzs : z.cells.size = size) (hsz : 0 < size)
    (ao : Option Addr) (n cap : Nat) (xs : List Value) (hs : a.eval s = .slice ao n cap) (hown : w.ownsRow base e size (.slice ao n cap) n xs)
    (bo : Option Addr) (m c : Nat) (news : List Value) (hx : a.eval x = .slice bo m c) (hnone : bo = none → m = 0 ∧ c = 0) (hl : news.length = m * size) (hnews : ∀ ad, bo = some ad → ∀ j u, news[j]? = some u → w.cell? (ad.add j) = some u) (h1 : ∀ u ∈ news, u.oneCell' = true)
    (h63 : n + m ≤ maxLen) (hbytes : (n + m) * bytes ≤ 140737488355328) (hbase : base ≤ w.heap.size)
    (h : ∀ co c' w', w'.ownsRow base e size (.slice co (n + m) c') (n + m) (xs ++ news) → w.grownBy w' (Value.slice ao n cap).ownBlock → (∀ g, co = some g → ao = some g ∨ w.heap.size ≤ g.block) → wpList P ops Q rest (a.put o.dst (.slice co (n + m) c')) w') : wpList P ops Q (o :: rest) a w := by
  cases bo with
  | none =>
    obtain ⟨rfl, rfl⟩ := hnone rfl
    have hn : news = [] := by cases news with
      | nil => rfl
      | cons y r => simp at hl
    subst hn
    refine wpList_append_own_none hgd s x t ho base e i size ht hi _ n xs hs hown hx ?_
    exact h ao cap w (by simpa using hown) (World.grownBy.refl _ _) (fun g hg => .inl hg)
  | some ad =>
    by_cases hfit : n + m ≤ cap
    · rcases hown.2 with ⟨hv, h0⟩ | ⟨g, cap', cur, hv, -⟩
      · simp only [Value.slice.injEq] at hv
        obtain ⟨rfl, rfl, rfl⟩ := hv
        have hm : m = 0 := by omega
        subst hm
        refine wpList_append_own w hgd s x t ho base e i z size bytes ht hi hz hsize hby hzs hsz _ 0 xs hs hown ad 0 c news hx hl (hnews ad rfl) h1 h63 hbytes hbase fun v' w' a b ci => ?_
        have hv' := ci.2 ⟨rfl, rfl⟩
        subst hv'
        exact h none 0 w' a b (fun g hg => by cases hg)
      · simp only [Value.slice.injEq] at hv
        obtain ⟨rfl, -, rfl⟩ := hv
        exact wpList_append_fits w hgd s x t ho base e i size ht hi hsize g n _ xs hs hown ad m c news hx hl (hnews ad rfl) h1 hfit fun w' a b => h _ _ w' a b (fun g hg => .inl hg)
    · have hnn : ao = none → n = 0 ∧ cap = 0 := by
        intro e
        subst e
        rcases hown.2 with ⟨hv, h0⟩ | ⟨g, cap', cur, hv, -⟩
        · simp only [Value.slice.injEq] at hv; exact ⟨h0, hv.2.2⟩
        · simp at hv
      refine wpList_append_grows w hgd s x t ho e i z size bytes ht hi hz hsize hby hzs hsz ao n cap xs hs hnn hown.1 ?_ ad m c news hx hl (hnews ad rfl) h1 (by omega) h63 hbytes fun v' w' a b => ?_
      · intro b hb j u hu
        subst hb
        rcases hown.2 with ⟨hv, -⟩ | ⟨g, cap', cur, hv, -⟩
        · simp at hv
        · simp only [Value.slice.injEq, Option.some.injEq] at hv
          obtain ⟨rfl, -, rfl⟩ := hv
          have hj : j < n * size := by rw [← hown.1]; exact (List.getElem?_eq_some_iff.1 hu).1
          rw [add_none, Nat.zero_add, hown.cellAt j hj, hu]
      · obtain ⟨co, c', rfl, hco⟩ := owns_shape a
        exact h co c' w' (owns_weak a hbase) (grown_weak b) (fun g hg => .inr (hco g hg))
theorem step_append_any {P : Program} (w : World) {ops : Array Oper} {o : Oper} {a : Act} {K : Act → World → Prop} {Q : Exit → Act → World → Prop} {E : Prop} (hgd : o.guard = none) (s x : Operand) (t : TypeId)
    (ho : o.op = .call { callee := .builtin .append, args := #[s, x], argTypes := #[t, t] })
    (base : Nat) (e : TypeId) (i : TypeInfo) (z : Value) (size bytes : Nat) (ht : P.underlying t = some (.slice e)) (hi : P.info? e = some i) (hz : i.zero = some z)
    (hsize : i.size = size) (hby : i.bytes = bytes) (hzs : z.cells.size = size) (hsz : 0 < size)
    (v : Value) (n : Nat) (xs : List Value) (hs : a.eval s = v) (hown : w.ownsRow base e size v n xs)
    (ao : Option Addr) (m c : Nat) (news : List Value) (hx : a.eval x = .slice ao m c) (hnone : ao = none → m = 0 ∧ c = 0) (hl : news.length = m * size) (hnews : ∀ ad, ao = some ad → ∀ j u, news[j]? = some u → w.cell? (ad.add j) = some u) (h1 : ∀ u ∈ news, u.oneCell' = true)
    (h63 : n + m ≤ maxLen) (hbytes : (n + m) * bytes ≤ 140737488355328) (hbase : base ≤ w.heap.size)
    (h : ∀ v' w', w'.ownsRow base e size v' (n + m) (xs ++ news) → w.grownBy w' v.ownBlock → K (a.put o.dst v') w') :
    if Region.wanted o (yielded ops a.tmps) = true then Oper.wp P o a w K Q else E := by
  have hw : Region.wanted o (yielded ops a.tmps) = true := by simp [Region.wanted, hgd]
  rw [if_pos hw]
  cases ao with
  | none =>
    obtain ⟨rfl, rfl⟩ := hnone rfl
    have hn : news = [] := by cases news with
      | nil => rfl
      | cons y r => simp at hl
    subst hn
    have hrun := run_append_owned_none (P := P) (w := w) base t o.type e i size ht hi v n xs hown
    unfold Oper.wp execOp
    simp only [ho, resolve, invoke, builtin, Sem.run_bind, Sem.run_pure, Result.andThen_ok, List.map_toArray, List.map_cons, List.map_nil, hs, hx, hrun]
    exact h v w (by simpa using hown) ⟨rfl, rfl, rfl, Nat.le_refl _, fun _ _ _ => rfl⟩
  | some ad =>
    exact wp_append_own w s x t ho base e i z size bytes ht hi hz hsize hby hzs hsz v n xs hs hown ad m c news hx hl (hnews ad rfl) h1 h63 hbytes hbase fun v' w' a b _ => h v' w' a b
end Go.Proofs.Ytobnibdeimiinaa

/- Rows of bytes in memory: that came in, that the call made; what is kept when some blocks are written. -/
namespace Go.Proofs.Ytobnibdeimiinaa
open Go.RowKit

/-- All blocks but those of S are as they were. -/
structure Keeps (w w' : World) (S : Nat → Prop) : Prop where
  os : w'.os = w.os
  tape : w'.tape = w.tape
  output : w'.output = w.output
  size : w.heap.size ≤ w'.heap.size
  block : ∀ k, k < w.heap.size → ¬ S k → w'.heap[k]? = w.heap[k]?
theorem Keeps.refl (w : World) (S : Nat → Prop) : Keeps w w S := ⟨rfl, rfl, rfl, Nat.le_refl _, fun _ _ _ => rfl⟩
theorem Keeps.trans {a b c : World} {S T U : Nat → Prop} (h : Keeps a b S) (k : Keeps b c T) (hS : ∀ i, S i → U i) (hT : ∀ i, i < a.heap.size → T i → U i) : Keeps a c U :=
  ⟨k.os.trans h.os, k.tape.trans h.tape, k.output.trans h.output, Nat.le_trans h.size k.size, fun i hi hn =>
    (k.block i (Nat.lt_of_lt_of_le hi h.size) fun t => hn (hT i hi t)).trans (h.block i hi fun s => hn (hS i s))⟩
theorem Keeps.weak {a b : World} {S T : Nat → Prop} (h : Keeps a b S) (hS : ∀ i, i < a.heap.size → S i → T i) : Keeps a b T :=
  ⟨h.os, h.tape, h.output, h.size, fun i hi hn => h.block i hi fun s => hn (hS i hi s)⟩
theorem Keeps.of_below {B : Nat} {a b : World} (h : Below B a b) : Keeps a b (fun k => B ≤ k) := ⟨h.os, h.tape, h.output, h.size, fun i _ hn => h.block i (Nat.lt_of_not_le hn)⟩
theorem Keeps.of_grown {B : Nat} {a b : World} (h : Below B a b) (hB : a.heap.size ≤ B) (S : Nat → Prop) : Keeps a b S := ⟨h.os, h.tape, h.output, h.size, fun i hi _ => h.block i (Nat.lt_of_lt_of_le hi hB)⟩
theorem Keeps.below {B : Nat} {a b : World} {S : Nat → Prop} (h : Keeps a b S) (hS : ∀ k, S k → B ≤ k) (hB : B ≤ a.heap.size) : Below B a b :=
  ⟨h.os, h.tape, h.output, h.size, fun k hk => h.block k (by omega) fun s => by have := hS k s; omega⟩
theorem Keeps.grown {a b : World} {row : Option Nat} (h : a.grownBy b row) : Keeps a b (fun k => some k = row) := ⟨h.os, h.tape, h.output, h.size, fun k hk hn => h.block k hk hn⟩
theorem Keeps.cell {a b : World} {S : Nat → Prop} (h : Keeps a b S) {p : Addr} (hp : p.block < a.heap.size) (hn : ¬ S p.block) : b.cell? p = a.cell? p := World.cell?_of_block (w := a) (h.block p.block hp hn)
theorem Keeps.frozen {a b : World} {S : Nat → Prop} (h : Keeps a b S) {p : Addr} (hp : p.block < a.heap.size) (hn : ¬ S p.block) : b.frozen? p = a.frozen? p := World.frozen?_of_block (w := a) (h.block p.block hp hn)
theorem Keeps.set (w : World) (a : Addr) (v : Value) : Keeps w (w.setCell a v) (fun x => x = a.block) := ⟨rfl, rfl, rfl, by simp [World.setCell], fun k _ hn => Below.heap_setCell _ _ _ _ hn⟩

def bytV (l : List UInt8) : List Value := l.map fun c => .int .u8 (c.toNat : Int)
theorem bytV_length (l : List UInt8) : (bytV l).length = l.length := by simp [bytV]
theorem bytV_append (a b : List UInt8) : bytV a ++ bytV b = bytV (a ++ b) := by simp [bytV]
theorem bytV_one (l : List UInt8) : ∀ u ∈ bytV l, u.oneCell' = true := by
  intro u hu
  simp only [bytV, List.mem_map] at hu
  obtain ⟨c, -, rfl⟩ := hu
  rfl
theorem bytV_get (l : List UInt8) (i : Nat) (h : i < l.length) : (bytV l)[i]? = some (.int .u8 (l[i].toNat : Int)) := by simp [bytV, h]

/-- The bytes lie from b, off on. -/
def BRow (w : World) (b off : Nat) (l : List UInt8) : Prop := ∀ i, (h : i < l.length) → w.cell? ⟨b, off + i, none⟩ = some (.int .u8 (l[i].toNat : Int))
/-- A slice's address leads to the bytes: where there is one. -/
def BAt (w : World) (ao : Option Addr) (l : List UInt8) : Prop := 0 < l.length → ∃ b off, ao = some ⟨b, off, none⟩ ∧ b < w.heap.size ∧ BRow w b off l
theorem BRow.keeps {w w' : World} {b off : Nat} {l : List UInt8} {S : Nat → Prop} (h : BRow w b off l) (hb : b < w.heap.size) (k : Keeps w w' S) (hn : ¬ S b) : BRow w' b off l := fun i hi => (k.cell (p := ⟨b, _, none⟩) hb hn).trans (h i hi)
theorem BRow.below {w w' : World} {b off B : Nat} {l : List UInt8} (h : BRow w b off l) (hb : b < B) (k : Below B w w') : BRow w' b off l := fun i hi => (k.cell (p := ⟨b, _, none⟩) hb).trans (h i hi)
theorem BAt.below {w w' : World} {ao : Option Addr} {l : List UInt8} (h : BAt w ao l) (k : Below w.heap.size w w') : BAt w' ao l := fun hp =>
  let ⟨b, off, e, hb, hr⟩ := h hp
  ⟨b, off, e, Nat.lt_of_lt_of_le hb k.size, hr.below hb k⟩
theorem BAt.nil {w : World} {ao : Option Addr} : BAt w ao [] := fun h => by simp at h
theorem BRow.at {w : World} {b off : Nat} {l : List UInt8} (h : BRow w b off l) (hb : b < w.heap.size) : BAt w (some ⟨b, off, none⟩) l := fun _ => ⟨b, off, rfl, hb, h⟩
theorem BRow.cells {w : World} {b off : Nat} {l : List UInt8} (h : BRow w b off l) : ∀ j u, (bytV l)[j]? = some u → w.cell? ((⟨b, off, none⟩ : Addr).add j) = some u := by
  intro j u hu
  have hj : j < l.length := by rw [← bytV_length]; exact (List.getElem?_eq_some_iff.1 hu).1
  rw [bytV_get l j hj] at hu
  rw [add_none, ← hu]
  exact h j hj
theorem BAt.cells {w : World} {ao : Option Addr} {l : List UInt8} (h : BAt w ao l) : ∀ ad, ao = some ad → ∀ j u, (bytV l)[j]? = some u → w.cell? (ad.add j) = some u := by
  intro ad had j u hu
  by_cases hp : 0 < l.length
  · obtain ⟨b, off, e, -, hr⟩ := h hp
    rw [had] at e
    obtain rfl : ad = ⟨b, off, none⟩ := by simpa using e
    exact hr.cells j u hu
  · have : l = [] := by cases l with
      | nil => rfl
      | cons x r => simp at hp
    subst this
    simp [bytV] at hu
/-- A slice of bytes that the call made: its value is v; o: its block. -/
def OwnB (w : World) (base : Nat) (ao : Option Addr) (cap : Nat) (l : List UInt8) : Prop := w.ownsRow base 5 1 (.slice ao l.length cap) l.length (bytV l)
theorem OwnB.at {w : World} {base : Nat} {ao : Option Addr} {cap : Nat} {l : List UInt8} (h : OwnB w base ao cap l) : BAt w ao l := by
  intro hp
  rcases h.2 with ⟨hv, h0⟩ | ⟨g, c, cur, hv, hg, hh, -⟩
  · omega
  · simp only [Value.slice.injEq] at hv
    obtain ⟨rfl, -, rfl⟩ := hv
    refine ⟨g, 0, rfl, (Array.getElem?_eq_some_iff.1 hh).1, fun i hi => ?_⟩
    have := h.cellAt i (by omega)
    rw [bytV_get l i hi] at this
    simpa using this
theorem OwnB.none {w : World} {base : Nat} {ao : Option Addr} {cap : Nat} {l : List UInt8} (h : OwnB w base ao cap l) : ao = .none → l.length = 0 ∧ cap = 0 := by
  intro e
  subst e
  rcases h.2 with ⟨hv, h0⟩ | ⟨g, c, cur, hv, -⟩
  · simp only [Value.slice.injEq] at hv; exact ⟨h0, hv.2.2⟩
  · simp at hv
theorem OwnB.le {w : World} {base : Nat} {ao : Option Addr} {cap : Nat} {l : List UInt8} (h : OwnB w base ao cap l) : l.length ≤ cap ∧ cap ≤ 9223372036854775807 := by
  rcases h.2 with ⟨hv, h0⟩ | ⟨g, c, cur, hv, -, -, h1, h2, -⟩
  · simp only [Value.slice.injEq] at hv; omega
  · simp only [Value.slice.injEq] at hv
    obtain ⟨-, -, rfl⟩ := hv
    unfold maxLen at h2
    omega
theorem OwnB.row {w : World} {base : Nat} {ao : Option Addr} {cap : Nat} {l : List UInt8} (h : OwnB w base ao cap l) (hp : 0 < l.length) : ∃ g, ao = some ⟨g, 0, Option.none⟩ ∧ base ≤ g ∧ g < w.heap.size ∧ BRow w g 0 l := by
  obtain ⟨b, off, e, hlt, hr⟩ := h.at hp
  rcases h.2 with ⟨hv, h0⟩ | ⟨g, c, cur, hv, hb, -⟩
  · omega
  · simp only [Value.slice.injEq] at hv
    rw [hv.1] at e
    simp only [Option.some.injEq, Addr.mk.injEq, and_true] at e
    obtain ⟨rfl, rfl⟩ := e
    exact ⟨g, hv.1, hb, hlt, hr⟩
theorem own_weak {w : World} {b c : Nat} {ao : Option Addr} {cap : Nat} {l : List UInt8} (h : OwnB w b ao cap l) (hc : c ≤ b) : OwnB w c ao cap l := by
  obtain ⟨h1, h2⟩ := h
  refine ⟨h1, ?_⟩
  rcases h2 with h2 | ⟨g, c', cur, hv, hg, r⟩
  · exact Or.inl h2
  · exact Or.inr ⟨g, c', cur, hv, Nat.le_trans hc hg, r⟩
theorem owned_bytes {w : World} {base n : Nat} {v : Value} {l : List UInt8} (h : w.ownsRow base 5 1 v n (bytV l)) (hn : n = l.length) : ∃ ao cap, v = .slice ao l.length cap ∧ OwnB w base ao cap l := by
  subst hn
  rcases h.2 with ⟨hv, h0⟩ | ⟨g, c, cur, hv, -⟩
  · exact ⟨.none, 0, by rw [hv, h0], by unfold OwnB; rw [h0] at h ⊢; rw [hv] at h; exact h⟩
  · exact ⟨_, c, hv, by unfold OwnB; rw [hv] at h; exact h⟩
theorem byteInfo : (Try.prog.info? 5).map (fun i => (i.zero, i.size, i.bytes)) = some (some (.int .u8 0), 1, 1) := by kernel_rfl
/-- The post of a call that hands back bytes in new memory. -/
def FreshB (w : World) (l : List UInt8) (e : Ending) (w' : World) : Prop := ∃ ao cap, e = .returned (.slice ao l.length cap) ∧ OwnB w' w.heap.size ao cap l ∧ Below w.heap.size w w'
end Go.Proofs.Ytobnibdeimiinaa

/- Contracts of bytes.Clone and of the laws' 'same'. -/
namespace Go.Proofs.Ytobnibdeimiinaa
open Go.RowKit

theorem one_cell (wr : World) (c : UInt8) (t : TypeId) (x : Int) (hx : x = (c.toNat : Int)) : ∀ ad, some (⟨wr.heap.size, 0, none⟩ : Addr) = some ad → ∀ j u, (bytV [c])[j]? = some u → (wr.alloc (.cells #[.int .u8 x] t)).cell? (ad.add j) = some u := by
  intro ad had j u hu
  obtain rfl : ad = ⟨wr.heap.size, 0, none⟩ := by simpa using had.symm
  have hj : j = 0 := by
    have := (List.getElem?_eq_some_iff.1 hu).1
    simp [bytV] at this; exact this
  subst hj hx
  simp [bytV] at hu
  subst hu
  simp [Addr.add]
theorem take_same {a b : List UInt8} {k : Nat} (h : a.take k = b.take k) (ha : k < a.length) (hb : k < b.length) (e : a[k] = b[k]) : a.take (k + 1) = b.take (k + 1) := by
  rw [List.take_succ_eq_append_getElem ha, List.take_succ_eq_append_getElem hb, h, e]
theorem take_differs {a b : List UInt8} {k : Nat} (ha : k < a.length) (hb : k < b.length) (e : a[k] ≠ b[k]) : (a == b) = false := by
  rw [beq_eq_false_iff_ne]
  intro h
  subst h
  exact e rfl
theorem take_end {a b : List UInt8} {k : Nat} (h : a.take k = b.take k) (ha : a.length ≤ k) (hl : a.length = b.length) : (a == b) = true := by
  rw [List.take_of_length_le ha, List.take_of_length_le (by omega)] at h
  rw [h, beq_self_eq_true]

set_option maxHeartbeats 1000000 in
theorem clone_any (ao : Option Addr) (cap : Nat) (a : List UInt8) (w : World) (h0 : ao = none → a.length = 0 ∧ cap = 0) (ha : BAt w ao a) (hm : a.length ≤ 140737488351232) :
    Calls Try.prog 93 #[.slice ao a.length cap] w (FreshB w a) := by
  cases ao with
  | none =>
    obtain ⟨h1, h2⟩ := h0 rfl
    have h3 : a = [] := List.length_eq_zero_iff.1 h1
    subst h3 h2
    have heq := fun w => Lib.run_eql_slice_nil (P := Try.prog) w 58 5 none 0 0 0 0 Try.underlying58
    simp only [List.length_nil]
    go_enter Try.func93, Try.ntmps93
    go_wp2_with fail
    go_ret
    exact ⟨none, 0, rfl, World.ownsRow_nil _ _ _ _, Below.refl _ _⟩
  | some ad =>
    have heq := fun w => Lib.run_eql_slice_nil (P := Try.prog) w 58 5 (some ad) a.length cap 0 0 Try.underlying58
    obtain ⟨i0, hi, hz0, hz1, hz2⟩ := info_parts byteInfo
    have Ha := Lib.hid ha
    clear ha h0
    go_enter Try.func93, Try.ntmps93
    go_wp2_with (at_builtin; go_must (refine wpList_append_any _ rfl (.tmp 5) (.tmp 6) 58 rfl w.heap.size 5 i0 (.int .u8 0) 1 1 Try.underlying58 hi hz0 hz1 hz2 rfl (by decide) _ 0 [] rfl (owns_emptyAt _ w.heap.size rfl w.heap.size (Nat.le_refl _) 5 1) (some ad) a.length cap (bytV a) rfl (fun h => by cases h) (by rw [bytV_length, Nat.mul_one]) (Ha.out.below ((Below.refl _ _).alloc (Nat.le_refl _) _)).cells (bytV_one a) (by unfold maxLen; omega) (by omega) (by simp) ?_))
    intro v w1 hown hgrow
    have hb : Below w.heap.size w w1 := below_grown ((Below.refl _ _).alloc (Nat.le_refl _) _) (by simp) hgrow (fun k hk => by simp [Value.ownBlock] at hk; omega)
    obtain ⟨bo, c, hv, ho⟩ := owned_bytes (by simpa using hown) rfl
    have Ho := Lib.hid ho
    clear hown hgrow ho
    rw [hv]
    go_wp2_with fail
    go_ret
    exact ⟨bo, c, rfl, Ho.out, hb⟩
end Go.Proofs.Ytobnibdeimiinaa

/- Contracts of the laws' helpers: roomy, stands, spoil. -/
namespace Go.Proofs.Ytobnibdeimiinaa
open Go.RowKit

theorem bytV_set (l : List UInt8) (i : Nat) (c : UInt8) : (bytV l).set i (.int .u8 (c.toNat : Int)) = bytV (l.set i c) := by simp [bytV, List.map_set]
theorem own_stored {w : World} {base g cap : Nat} {l : List UInt8} (h : OwnB w base (some ⟨g, 0, none⟩) cap l) (j : Nat) (c : UInt8) : OwnB (w.setCell ⟨g, j, none⟩ (.int .u8 (c.toNat : Int))) base (some ⟨g, 0, none⟩) cap (l.set j c) := by
  have := (World.ownsRow.stored h j (.int .u8 (c.toNat : Int))).1
  unfold OwnB
  rw [bytV_set] at this
  rw [List.length_set]
  exact this
theorem own_form {w : World} {base cap : Nat} {ao : Option Addr} {l : List UInt8} (h : OwnB w base ao cap l) (hp : 0 < l.length) : ∃ g, ao = some ⟨g, 0, none⟩ ∧ base ≤ g ∧ g < w.heap.size := by
  rcases h.2 with ⟨hv, h0⟩ | ⟨g, c, cur, hv, hg, hh, -⟩
  · omega
  · simp only [Value.slice.injEq] at hv
    exact ⟨g, hv.1, hg, (Array.getElem?_eq_some_iff.1 hh).1⟩
/-- A shorter slice of the same bytes. -/
theorem own_short {w : World} {base cap g : Nat} {l : List UInt8} (h : OwnB w base (some ⟨g, 0, none⟩) cap l) (n : Nat) (hn : n ≤ l.length) : OwnB w base (some ⟨g, 0, none⟩) cap (l.take n) := by
  have hl : (l.take n).length = n := by rw [List.length_take, Nat.min_eq_left hn]
  unfold OwnB
  rw [hl]
  refine ⟨by rw [bytV_length, hl, Nat.mul_one], ?_⟩
  rcases h.2 with ⟨hv, h0⟩ | ⟨g', c, cur, hv, hg, hh, h1, h2, h3, h4⟩
  · simp at hv
  · simp only [Value.slice.injEq, Option.some.injEq, Addr.mk.injEq, and_true, true_and] at hv
    obtain ⟨rfl, rfl⟩ := hv
    refine .inr ⟨g, cap, cur, rfl, hg, hh, by omega, h2, h3, ?_⟩
    have : (cur.toList.take (l.length * 1)).take (n * 1) = (bytV l).take (n * 1) := by rw [h4]
    rw [List.take_take, Nat.min_eq_left (by omega)] at this
    rw [this]
    simp [bytV, List.map_take]

theorem own_lit (w : World) (l : List UInt8) (hm : l.length ≤ 140737488351232) : OwnB (w.alloc (.cells (bytV l).toArray 5)) w.heap.size (some ⟨w.heap.size, 0, none⟩) l.length l :=
  World.ownsRow_lit w (bytV l).toArray l.length (Nat.le_refl _) (by unfold maxLen; omega) (by simp [bytV_length])

theorem bat_lit (w : World) (n : Nat) (hn : n = w.heap.size) (l : List UInt8) (t : TypeId) (fr : Nat × Nat) : BAt (w.alloc (.cells (bytV l).toArray t fr)) (some ⟨n, 0, none⟩) l := by
  subst hn
  refine fun _ => ⟨w.heap.size, 0, rfl, by simp, fun i hi => ?_⟩
  have : (w.alloc (.cells (bytV l).toArray t fr)).heap[w.heap.size]? = some (.cells (bytV l).toArray t fr) := heap_new w _
  rw [Nat.zero_add]
  simp only [World.cell?, this]
  simpa using bytV_get l i hi
/-- '[]byte("..")' of a constant. -/
theorem const_bytes (w : World) (C : Array Value) (n c : Nat) : (convert 58 58 (.slice (some ⟨w.heap.size, 0, none⟩) n c)).run Try.prog (w.alloc (.cells C 5)) = .ok (.slice (some ⟨w.heap.size, 0, none⟩) n c) (w.alloc (.cells C 5 (C.size, C.size + 1))) :=
  Lib.run_convert_bytes_const w 58 5 C n c Try.underlying58 Try.underlying5

end Go.Proofs.Ytobnibdeimiinaa

/- Things that the call made, each with the blocks that it may write: they stay apart. -/
namespace Go.Proofs.Ytobnibdeimiinaa
open Go.RowKit

structure Th where
  T : World → Prop
  F : Nat → Prop
  stay : ∀ {w w' : World} {S : Nat → Prop}, T w → Keeps w w' S → (∀ x, F x → ¬ S x) → T w'
  lt : ∀ {w : World} {x : Nat}, T w → F x → x < w.heap.size
def Ths (B : Nat) (w : World) : List Th → Prop
  | [] => True
  | t :: r => t.T w ∧ (∀ x, t.F x → B ≤ x) ∧ (∀ u ∈ r, ∀ x, t.F x → ¬ u.F x) ∧ Ths B w r
theorem Ths.keep {B : Nat} {w w' : World} {S : Nat → Prop} : ∀ {L : List Th}, Ths B w L → Keeps w w' S → (∀ t ∈ L, ∀ x, t.F x → ¬ S x) → Ths B w' L
  | [], _, _, _ => trivial
  | t :: r, h, k, hS => ⟨t.stay h.1 k (hS t (by simp)), h.2.1, h.2.2.1, Ths.keep h.2.2.2 k fun u hu => hS u (by simp [hu])⟩
theorem Ths.lts {B : Nat} {w : World} : ∀ {L : List Th}, Ths B w L → ∀ t ∈ L, ∀ x, t.F x → x < w.heap.size ∧ B ≤ x
  | [], _, t, ht, _, _ => by simp at ht
  | u :: r, h, t, ht, x, hx => by
    rcases List.mem_cons.1 ht with e | e
    · subst e; exact ⟨t.lt h.1 hx, h.2.1 x hx⟩
    · exact Ths.lts h.2.2.2 t e x hx
theorem Ths.pull {B : Nat} {w : World} {t : Th} {R : List Th} : ∀ {A : List Th}, Ths B w (A ++ t :: R) → Ths B w (t :: (A ++ R))
  | [], h => h
  | a :: A, h => by
    have ih := Ths.pull h.2.2.2
    refine ⟨ih.1, ih.2.1, fun u hu x hx => ?_, h.1, h.2.1, fun u hu => h.2.2.1 u (by simp at hu ⊢; rcases hu with e | e; exact .inl e; exact .inr (.inr e)), ih.2.2.2⟩
    rcases List.mem_cons.1 hu with e | e
    · subst e; exact fun ha => h.2.2.1 t (by simp) x ha hx
    · exact ih.2.2.1 u e x hx
/-- The state of a law's walk: memory of old stands; the things made stay apart. -/
structure St (W w : World) (L : List Th) : Prop where
  b : Below W.heap.size W w
  t : Ths W.heap.size w L
theorem keeps_same0 {w w' : World} (h : Below w.heap.size w w') (S : Nat → Prop) : Keeps w w' S := Keeps.of_grown h (Nat.le_refl _) S
theorem St.start (W : World) : St W W [] := ⟨Below.refl _ _, trivial⟩
theorem St.grow {W w w' : World} {L : List Th} (h : St W w L) (b : Below w.heap.size w w') : St W w' L := ⟨h.b.trans (b.mono h.b.size), h.t.keep (keeps_same0 b (fun _ => False)) (fun _ _ _ _ h => h)⟩
theorem St.new {W w w' : World} {L : List Th} (h : St W w L) (b : Below w.heap.size w w') (t : Th) (ht : t.T w') (hF : ∀ x, t.F x → w.heap.size ≤ x) : St W w' (t :: L) :=
  ⟨(h.grow b).b, ht, fun x hx => Nat.le_trans h.b.size (hF x hx), fun u hu x hx hux => by have := (h.t.lts u hu x hux).1; have := hF x hx; omega, (h.grow b).t⟩
theorem St.step {W w w' : World} {t : Th} {L : List Th} (h : St W w (t :: L)) (k : Keeps w w' t.F) (t' : Th) (ht : t'.T w') (hF : ∀ x, t'.F x → t.F x ∨ w.heap.size ≤ x) : St W w' (t' :: L) :=
  ⟨h.b.trans (k.below (fun x hx => h.t.2.1 x hx) h.b.size), ht, fun x hx => (hF x hx).elim (h.t.2.1 x) (fun h1 => Nat.le_trans h.b.size h1), fun u hu x hx hux => (hF x hx).elim (fun h1 => h.t.2.2.1 u hu x h1 hux) (fun h1 => by have := (h.t.2.2.2.lts u hu x hux).1; omega), h.t.2.2.2.keep k (fun u hu x hx hs => h.t.2.2.1 u hu x hs hx)⟩
/-- A thing is spoilt and left. -/
theorem St.lose {W w w' : World} {t : Th} {L : List Th} (h : St W w (t :: L)) (k : Keeps w w' t.F) : St W w' L :=
  ⟨h.b.trans (k.below (fun x hx => h.t.2.1 x hx) h.b.size), h.t.2.2.2.keep k (fun u hu x hx hs => h.t.2.2.1 u hu x hs hx)⟩
theorem St.pull {W w : World} {A R : List Th} {t : Th} (h : St W w (A ++ t :: R)) : St W w (t :: (A ++ R)) := ⟨h.b, h.t.pull⟩
theorem St.drop {W w : World} {t : Th} {L : List Th} (h : St W w (t :: L)) : St W w L := ⟨h.b, h.t.2.2.2⟩
theorem St.head {W w : World} {t : Th} {L : List Th} (h : St W w (t :: L)) : t.T w := h.t.1
theorem own_keeps {w w' : World} {base : Nat} {ao : Option Addr} {cap : Nat} {l : List UInt8} {S : Nat → Prop} (h : OwnB w base ao cap l) (k : Keeps w w' S) (hn : ∀ g, (Value.slice ao l.length cap).ownBlock = some g → ¬ S g) : OwnB w' base ao cap l := by
  refine ⟨h.1, ?_⟩
  rcases h.2 with h2 | ⟨g, c, cur, hv, hg, hh, r⟩
  · exact .inl h2
  · exact .inr ⟨g, c, cur, hv, hg, (k.block g (Array.getElem?_eq_some_iff.1 hh).1 (hn g (by rw [hv]; rfl))).trans hh, r⟩
theorem own_grow {w w' : World} {base : Nat} {ao : Option Addr} {cap : Nat} {l : List UInt8} (h : OwnB w base ao cap l) (b : Below w.heap.size w w') : OwnB w' base ao cap l := own_keeps h (keeps_same0 b (fun _ => False)) (fun _ _ h => h)
theorem own_lt {w : World} {base : Nat} {ao : Option Addr} {cap : Nat} {l : List UInt8} (h : OwnB w base ao cap l) : ∀ g, (Value.slice ao l.length cap).ownBlock = some g → g < w.heap.size ∧ base ≤ g := by
  intro g hg
  rcases h.2 with ⟨hv, -⟩ | ⟨g', c, cur, hv, hb, hh, -⟩
  · rw [hv] at hg; simp [Value.ownBlock] at hg
  · rw [hv] at hg
    simp only [Value.ownBlock, Option.some.injEq] at hg
    subst hg
    exact ⟨lt_of_block hh, hb⟩
theorem ownBlock_of {ao : Option Addr} {n c g : Nat} (h : (Value.slice ao n c).ownBlock = some g) : ∃ a, ao = some a ∧ a.block = g := by
  cases ao with
  | none => simp [Value.ownBlock] at h
  | some a => exact ⟨a, rfl, by simpa [Value.ownBlock] using h⟩
/-- Bytes of the call's own. -/
def thOwn (base : Nat) (ao : Option Addr) (cap : Nat) (l : List UInt8) : Th where
  T w := OwnB w base ao cap l
  F x := ∃ a, ao = some a ∧ a.block = x
  stay h k hS := own_keeps h k (fun g hg => hS g (ownBlock_of hg))
  lt h hx := by
    obtain ⟨a, rfl, rfl⟩ := hx
    exact (own_lt h a.block rfl).1
theorem St.own {W w w' : World} {L : List Th} {ao : Option Addr} {cap : Nat} {l : List UInt8} (h : St W w L) (b : Below w.heap.size w w') (ho : OwnB w' w.heap.size ao cap l) : St W w' (thOwn w.heap.size ao cap l :: L) :=
  h.new b _ ho (fun x hx => by
    obtain ⟨a, rfl, rfl⟩ := hx
    exact (own_lt ho a.block rfl).2)
/-- A row of the call's own, of whatever elements. -/
def thRow (base : Nat) (e : TypeId) (size : Nat) (ao : Option Addr) (n cap : Nat) (xs : List Value) : Th where
  T w := w.ownsRow base e size (.slice ao n cap) n xs
  F x := ∃ a, ao = some a ∧ a.block = x
  stay h k hS := by
    refine ⟨h.1, ?_⟩
    rcases h.2 with h2 | ⟨g, c, cur, hv, hg, hh, r⟩
    · exact .inl h2
    · exact .inr ⟨g, c, cur, hv, hg, (k.block g (Array.getElem?_eq_some_iff.1 hh).1 (hS g (by simp only [Value.slice.injEq] at hv; exact ⟨_, hv.1, rfl⟩))).trans hh, r⟩
  lt h hx := by
    obtain ⟨a, rfl, rfl⟩ := hx
    exact (h.lt a.block rfl).2
theorem St.nilRow {W w : World} {L : List Th} (h : St W w L) (e : TypeId) (size : Nat) : St W w (thRow W.heap.size e size none 0 0 [] :: L) :=
  ⟨h.b, World.ownsRow_nil _ _ _ _, fun x hx => (by obtain ⟨a, e, -⟩ := hx; cases e), fun u _ x hx => (by obtain ⟨a, e, -⟩ := hx; cases e), h.t⟩
theorem St.appendedRow {W w w' : World} {L : List Th} {ao co : Option Addr} {e : TypeId} {size n m cap c' : Nat} {xs news : List Value} (h : St W w (thRow W.heap.size e size ao n cap xs :: L)) (hown : w'.ownsRow W.heap.size e size (.slice co (n + m) c') (n + m) (xs ++ news)) (hg : w.grownBy w' (Value.slice ao n cap).ownBlock) (hco : ∀ g, co = some g → ao = some g ∨ w.heap.size ≤ g.block) : St W w' (thRow W.heap.size e size co (n + m) c' (xs ++ news) :: L) := by
  refine h.step ((Keeps.grown hg).weak (fun i _ e => ownBlock_of e.symm)) _ hown (fun x hx => ?_)
  obtain ⟨a, rfl, rfl⟩ := hx
  rcases hco a rfl with h1 | h1
  · exact .inl ⟨a, h1, rfl⟩
  · exact .inr h1
theorem St.appended {W w w' : World} {L : List Th} {ao co : Option Addr} {cap c' : Nat} {l news : List UInt8} (h : St W w (thOwn W.heap.size ao cap l :: L)) (hown : w'.ownsRow W.heap.size 5 1 (.slice co (l.length + news.length) c') (l.length + news.length) (bytV l ++ bytV news)) (hg : w.grownBy w' (Value.slice ao l.length cap).ownBlock) (hco : ∀ g, co = some g → ao = some g ∨ w.heap.size ≤ g.block) : St W w' (thOwn W.heap.size co c' (l ++ news) :: L) := by
  refine h.step ((Keeps.grown hg).weak (fun i _ e => ownBlock_of e.symm)) _ (show OwnB w' W.heap.size co c' (l ++ news) by unfold OwnB; rw [← bytV_append, List.length_append]; exact hown) (fun x hx => ?_)
  obtain ⟨a, rfl, rfl⟩ := hx
  rcases hco a rfl with h1 | h1
  · exact .inl ⟨a, h1, rfl⟩
  · exact .inr h1
theorem St.nil {W w : World} {L : List Th} (h : St W w L) : St W w (thOwn W.heap.size none 0 [] :: L) :=
  ⟨h.b, ⟨rfl, .inl ⟨rfl, rfl⟩⟩, fun x hx => (by obtain ⟨a, e, -⟩ := hx; cases e), fun u _ x hx => (by obtain ⟨a, e, -⟩ := hx; cases e), h.t⟩
end Go.Proofs.Ytobnibdeimiinaa

/- Things that stay apart, in whatever order. -/
namespace Go.Proofs.Ytobnibdeimiinaa
open Go.RowKit

theorem Ths.perm {B : Nat} {w : World} {L L' : List Th} (h : L.Perm L') : Ths B w L → Ths B w L' := by
  induction h with
  | nil => exact id
  | cons t hp ih => exact fun hl => ⟨hl.1, hl.2.1, fun u hu => hl.2.2.1 u (hp.mem_iff.2 hu), ih hl.2.2.2⟩
  | swap t u r =>
    intro hl
    obtain ⟨h1, h2, h3, h4, h5, h6, h7⟩ := hl
    refine ⟨h4, h5, fun v hv x hx => ?_, h1, h2, fun v hv => h3 v (by simp [hv]), h7⟩
    rcases List.mem_cons.1 hv with e | e
    · subst e; exact fun hux => h3 t (by simp) x hux hx
    · exact h6 v e x hx
  | trans _ _ ih1 ih2 => exact fun hl => ih2 (ih1 hl)
theorem St.perm {W w : World} {L L' : List Th} (h : St W w L) (p : L.Perm L') : St W w L' := ⟨h.b, h.t.perm p⟩
theorem St.mem {W w : World} {L : List Th} (h : St W w L) {t : Th} (ht : t ∈ L) : t.T w := by
  obtain ⟨A, R, rfl⟩ := List.append_of_mem ht
  exact (h.pull).head
end Go.Proofs.Ytobnibdeimiinaa

/- A block of the call's own, as a thing. -/
namespace Go.Proofs.Ytobnibdeimiinaa
open Go.RowKit

theorem below_allocO (w : World) (o : Obj) : Below w.heap.size w (w.alloc o) := (Below.refl _ _).alloc (Nat.le_refl _) _
/-- A block of which nothing is said. -/
def thFree (b : Nat) : Th where
  T w := b < w.heap.size
  F x := x = b
  stay h k _ := Nat.lt_of_lt_of_le h k.size
  lt h e := e ▸ h
theorem St.set_free {W w : World} {L : List Th} {b : Nat} (h : St W w (thFree b :: L)) (o : Nat) (v : Value) : St W (w.setCell ⟨b, o, none⟩ v) (thFree b :: L) :=
  h.step (Keeps.set w ⟨b, o, none⟩ v) _ (Nat.lt_of_lt_of_le h.head (Keeps.set w ⟨b, o, none⟩ v).size) (fun _ hx => .inl hx)
/-- A block and what it holds. -/
def thObj (b : Nat) (o : Obj) : Th where
  T w := w.heap[b]? = some o
  F x := x = b
  stay h k hS := (k.block b (lt_of_block h) (hS b rfl)).trans h
  lt h e := e ▸ lt_of_block h
theorem St.objN {W w : World} {L : List Th} (h : St W w L) (o : Obj) (n : Nat) (hn : n = w.heap.size) : St W (w.alloc o) (thObj n o :: L) := by
  subst hn
  exact h.new (below_allocO w o) _ (heap_new w o) (fun x e => by rw [e]; exact Nat.le_refl _)
theorem St.to_free {W w : World} {L : List Th} {b : Nat} {o : Obj} (h : St W w (thObj b o :: L)) : St W w (thFree b :: L) :=
  h.step (Keeps.refl _ _) _ (lt_of_block h.head) (fun _ hx => .inl hx)
theorem cells_of_obj {w : World} {b : Nat} {cur : Array Value} {t : TypeId} (h : w.heap[b]? = some (.cells cur t (0, 0))) : (∀ j, w.cell? ⟨b, j, none⟩ = cur[j]?) ∧ ∀ j, w.frozen? ⟨b, j, none⟩ = false := by
  refine ⟨fun j => by simp [World.cell?, h], fun j => by simp [World.frozen?, h]⟩
theorem St.cells {W w : World} {L : List Th} (h : St W w L) {b : Nat} {cur : Array Value} {t : TypeId} (ht : thObj b (.cells cur t (0, 0)) ∈ L) : b < w.heap.size ∧ (∀ j, w.cell? ⟨b, j, none⟩ = cur[j]?) ∧ ∀ j, w.frozen? ⟨b, j, none⟩ = false :=
  ⟨lt_of_block (h.mem ht), cells_of_obj (h.mem ht)⟩
end Go.Proofs.Ytobnibdeimiinaa
