/- Texts put together: Zn, DirW. -/
import Derived.Test.YtobnibdeimiinaaBs
import Derived.Test.YtobnibdeimiinaaPn

/- Rows of zones in memory; a directory as a thing that stays apart. -/
namespace Go.Proofs.Ytobnibdeimiinaa
open Go.RowKit

def znV (z : Zn) : List Value := [.int .i64 z.id, .string z.fr, .string z.to, .int .i64 z.owner, .int .i64 z.epoch, .int .i64 z.pend, .int .i64 z.tt, .string z.key, .int .i64 z.nw]
def znR (l : List Zn) : List Value := l.flatMap znV
theorem znR_nil : znR [] = [] := rfl
theorem znR_cons (z : Zn) (l : List Zn) : znR (z :: l) = znV z ++ znR l := by simp [znR]
theorem znV_length (z : Zn) : (znV z).length = 9 := rfl
theorem znR_length (l : List Zn) : (znR l).length = l.length * 9 := by
  induction l with
  | nil => rfl
  | cons m r ih => rw [znR_cons, List.length_append, ih, znV_length, List.length_cons]; omega
theorem znR_append (a b : List Zn) : znR (a ++ b) = znR a ++ znR b := by simp [znR]
theorem znR_get : ∀ (l : List Zn) (i : Nat) (h : i < l.length) (j : Nat), j < 9 → (znR l)[i * 9 + j]? = (znV l[i])[j]?
  | m :: r, 0, _, j, hj => by
    rw [znR_cons, Nat.zero_mul, Nat.zero_add, List.getElem?_append_left (by rw [znV_length]; exact hj)]
    rfl
  | m :: r, i + 1, h, j, hj => by
    rw [znR_cons, List.getElem?_append_right (by rw [znV_length]; omega)]
    have := znR_get r i (by simpa using h) j hj
    rw [show (i + 1) * 9 + j - (znV m).length = i * 9 + j from by rw [znV_length]; omega, this]
    rfl
theorem znV_one (z : Zn) : ∀ u ∈ znV z, u.oneCell' = true := by
  intro u hu
  simp only [znV, List.mem_cons, List.not_mem_nil, or_false] at hu
  rcases hu with rfl | rfl | rfl | rfl | rfl | rfl | rfl | rfl | rfl <;> rfl
theorem znR_one (l : List Zn) : ∀ u ∈ znR l, u.oneCell' = true := by
  intro u hu
  simp only [znR, List.mem_flatMap] at hu
  obtain ⟨m, -, hm⟩ := hu
  exact znV_one m u hm
/-- One cell of a row is turned. -/
theorem znR_set : ∀ (l : List Zn) (i : Nat) (h : i < l.length) (j : Nat) (_ : j < 9) (v : Value) (z' : Zn) (_ : znV z' = (znV l[i]).set j v), (znR l).set (i * 9 + j) v = znR (l.set i z')
  | m :: r, 0, _, j, hj, v, z', he => by
    rw [znR_cons, List.set_cons_zero, znR_cons, Nat.zero_mul, Nat.zero_add, List.set_append_left _ _ (by rw [znV_length]; exact hj)]
    rw [he]; rfl
  | m :: r, i + 1, h, j, hj, v, z', he => by
    have ih := znR_set r i (by simpa using h) j hj v z' he
    rw [znR_cons, List.set_cons_succ, znR_cons, List.set_append_right _ _ (by rw [znV_length]; omega), show (i + 1) * 9 + j - (znV m).length = i * 9 + j from by rw [znV_length]; omega, ih]
/-- A row of zones of the call's own. -/
def OwnZ (w : World) (base g cap : Nat) (l : List Zn) : Prop := w.ownsRow base 39 9 (.slice (some ⟨g, 0, none⟩) l.length cap) l.length (znR l)
theorem OwnZ.facts {w : World} {base g cap : Nat} {l : List Zn} (h : OwnZ w base g cap l) : base ≤ g ∧ g < w.heap.size ∧ l.length ≤ cap ∧ cap ≤ 9223372036854775807 := by
  rcases h.2 with ⟨hv, -⟩ | ⟨g', c, cur, hv, hb, hh, h1, h2, -⟩
  · cases hv
  · simp only [Value.slice.injEq, Option.some.injEq, Addr.mk.injEq, and_true, true_and] at hv
    obtain ⟨rfl, rfl⟩ := hv
    unfold maxLen at h2
    exact ⟨hb, lt_of_block hh, h1, by omega⟩
theorem OwnZ.cell {w : World} {base g cap : Nat} {l : List Zn} (h : OwnZ w base g cap l) (i : Nat) (hi : i < l.length) (j : Nat) (v : Value) (hv : (znV l[i])[j]? = some v) : w.cell? ⟨g, i * 9 + j, none⟩ = some v := by
  have hj : j < 9 := (List.getElem?_eq_some_iff.1 hv).1
  rw [← hv, ← znR_get l i hi j hj]
  exact h.cellAt _ (by omega)
theorem OwnZ.frozen {w : World} {base g cap : Nat} {l : List Zn} (h : OwnZ w base g cap l) (j : Nat) : w.frozen? ⟨g, j, none⟩ = false := h.frozenAt j
theorem OwnZ.keeps {w w' : World} {base g cap : Nat} {l : List Zn} {S : Nat → Prop} (h : OwnZ w base g cap l) (k : Keeps w w' S) (hg : ¬ S g) : OwnZ w' base g cap l := by
  refine ⟨h.1, ?_⟩
  rcases h.2 with h4 | ⟨g', c, cur, hv, hb, hh, r⟩
  · exact .inl h4
  · simp only [Value.slice.injEq, Option.some.injEq, Addr.mk.injEq, and_true, true_and] at hv
    obtain ⟨rfl, rfl⟩ := hv
    exact .inr ⟨g, cap, cur, rfl, hb, (k.block g (lt_of_block hh) hg).trans hh, r⟩
theorem OwnZ.set {w : World} {base g cap : Nat} {l : List Zn} (h : OwnZ w base g cap l) (i : Nat) (hi : i < l.length) (j : Nat) (hj : j < 9) (v : Value) (z' : Zn) (he : znV z' = (znV l[i]).set j v) : OwnZ (w.setCell ⟨g, i * 9 + j, none⟩ v) base g cap (l.set i z') := by
  have := (World.ownsRow.stored h (i * 9 + j) v).1
  rw [znR_set l i hi j hj v z' he] at this
  unfold OwnZ
  rw [List.length_set]
  exact this
def dirCells (m : Mp) (g zc : Nat) (ho : Option Addr) (hl hc : Nat) : Array Value := #[.int .i64 m.ver, .int .i64 m.next, .slice (some ⟨g, 0, none⟩) m.zs.length zc, .slice ho hl hc]
/-- A directory at p: its zones lie in block g. -/
def thDir (ty : TypeId) (base p g zc : Nat) (m : Mp) (ho : Option Addr) (hl hc : Nat) : Th where
  T w := w.heap[p]? = some (.cells (dirCells m g zc ho hl hc) ty (0, 0)) ∧ OwnZ w base g zc m.zs ∧ g ≠ p
  F x := x = p ∨ x = g
  stay h k hS := ⟨(k.block p (lt_of_block h.1) (hS p (.inl rfl))).trans h.1, h.2.1.keeps k (hS g (.inr rfl)), h.2.2⟩
  lt h hx := by
    rcases hx with rfl | rfl
    · exact lt_of_block h.1
    · exact h.2.1.facts.2.1
/-- Ints of the call's own, that are only read. -/
def IAtD (w : World) (ao : Option Addr) (l : List Int) : Prop := 0 < l.length → ∃ b off, ao = some ⟨b, off, none⟩ ∧ b < w.heap.size ∧ ∀ i, (hi : i < l.length) → w.cell? ⟨b, off + i, none⟩ = some (.int .i64 l[i])
theorem IAtD.grow {w w' : World} {ao : Option Addr} {l : List Int} (h : IAtD w ao l) (b : Below w.heap.size w w') : IAtD w' ao l := fun hp => by
  obtain ⟨x, off, e, hx, hr⟩ := h hp
  exact ⟨x, off, e, Nat.lt_of_lt_of_le hx b.size, fun i hi => (b.cell (p := ⟨x, _, none⟩) hx).trans (hr i hi)⟩
def thInts (base b cap : Nat) (l : List Int) : Th where
  T w := w.ownsRow base 3 1 (.slice (some ⟨b, 0, none⟩) l.length cap) l.length (l.map (.int .i64))
  F x := x = b
  stay h k hS := by
    refine ⟨h.1, ?_⟩
    rcases h.2 with h4 | ⟨g', c, cur, hv, hb, hh, r⟩
    · exact .inl h4
    · simp only [Value.slice.injEq, Option.some.injEq, Addr.mk.injEq, and_true, true_and] at hv
      obtain ⟨rfl, rfl⟩ := hv
      exact .inr ⟨b, cap, cur, rfl, hb, (k.block b (lt_of_block hh) (hS b rfl)).trans hh, r⟩
  lt h hx := by
    have hx : _ = b := hx
    rw [hx]
    rcases h.2 with ⟨hv, -⟩ | ⟨g', c, cur, hv, hb, hh, r⟩
    · cases hv
    · simp only [Value.slice.injEq, Option.some.injEq, Addr.mk.injEq, and_true, true_and] at hv
      obtain ⟨rfl, -⟩ := hv
      exact lt_of_block hh
theorem thInts.at {base b cap : Nat} {l : List Int} {w : World} (h : (thInts base b cap l).T w) : IAtD w (some ⟨b, 0, none⟩) l := fun hp => by
  have h' : w.ownsRow base 3 1 (.slice (some ⟨b, 0, none⟩) l.length cap) l.length (l.map (.int .i64)) := h
  refine ⟨b, 0, rfl, (thInts base b cap l).lt h rfl, fun i hi => ?_⟩
  have := h'.cellAt i (by omega)
  rw [Nat.zero_add, this]
  simp [hi]
/-- The directory is told by its cells. -/
theorem dir_cells {ty : TypeId} {base p g zc : Nat} {m : Mp} {ho : Option Addr} {hl hc : Nat} {w : World} (h : (thDir ty base p g zc m ho hl hc).T w) : p < w.heap.size ∧ w.cell? ⟨p, 0, none⟩ = some (.int .i64 m.ver) ∧ w.cell? ⟨p, 1, none⟩ = some (.int .i64 m.next) ∧ w.cell? ⟨p, 2, none⟩ = some (.slice (some ⟨g, 0, none⟩) m.zs.length zc) ∧ w.cell? ⟨p, 3, none⟩ = some (.slice ho hl hc) ∧ ∀ j, w.frozen? ⟨p, j, none⟩ = false := by
  have hh := cells_of_obj h.1
  exact ⟨lt_of_block h.1, hh.1 0, hh.1 1, hh.1 2, hh.1 3, hh.2⟩
set_option maxHeartbeats 1000000 in
theorem ended_any (z : Zn) (e : Int) (w : World) : Calls Try.prog 78 #[.agg #[.int .i64 z.id, .string z.fr, .string z.to, .int .i64 z.owner, .int .i64 z.epoch, .int .i64 z.pend, .int .i64 z.tt, .string z.key, .int .i64 z.nw], .int .i64 e] w fun en w' => en = .returned (.agg #[.int .i64 z.id, .string z.fr, .string z.to, .int .i64 z.owner, .int .i64 e, .int .i64 0, .int .i64 0, .string ⟨#[]⟩, .int .i64 0]) ∧ Below w.heap.size w w' := by
  go_enter Try.func78, Try.ntmps78
  go_wp2_with fail
  exact bodyPost_ret (v := .agg #[.int .i64 z.id, .string z.fr, .string z.to, .int .i64 z.owner, .int .i64 e, .int .i64 0, .int .i64 0, .string ⟨#[]⟩, .int .i64 0]) (by simp only [results, Try.results78]; go_simp) rfl ⟨rfl, (by repeat (first | with_reducible exact Below.refl _ _ | with_reducible assumption | with_reducible refine Below.drew ?_ | with_reducible refine below_drawn ?_ | with_reducible refine Below.alloc ?_ (by first | omega | (simp; done) | (simp; omega) | (simp at *; omega)) _ | with_reducible refine Below.setCell ?_ (by first | omega | (simp; done) | (simp; omega) | (simp at *; omega)) _ | with_reducible refine Below.trans ?_ (Below.mono (by assumption) (by first | omega | (simp; done) | (simp; omega) | (simp at *; omega)))))⟩
theorem isNum_any (n : Int) (w : World) (r : Bool) (hr : decide (1 ≤ n ∧ n ≤ 1099511627776) = r) : Calls Try.prog 72 #[.int .i64 n] w fun e w' => e = .returned (.bool r) ∧ w = w' := by
  by_cases h1 : 1 ≤ n
  · by_cases h2 : n ≤ 1099511627776
    · obtain rfl : r = true := by rw [← hr]; simp [h1, h2]
      have d : decide (n ≤ 1099511627776) = true := by rw [decide_eq_true_eq]; exact h2
      clear hr
      go_enter Try.func72, Try.ntmps72
      go_wp2_with fail
      go_ret
      exact ⟨rfl, rfl⟩
    · obtain rfl : r = false := by rw [← hr]; simp [h2]
      have d : decide (n ≤ 1099511627776) = false := by rw [decide_eq_false_iff_not]; exact h2
      clear hr
      go_enter Try.func72, Try.ntmps72
      go_wp2_with fail
      go_ret
      exact ⟨rfl, rfl⟩
  · obtain rfl : r = false := by rw [← hr]; simp [h1]
    have d : decide (1 ≤ n) = false := by rw [decide_eq_false_iff_not]; exact h1
    clear hr
    go_enter Try.func72, Try.ntmps72
    go_wp2_with fail
    go_ret
    exact ⟨rfl, rfl⟩
end Go.Proofs.Ytobnibdeimiinaa

/- The contracts of pending, Contains, find. -/
namespace Go.Proofs.Ytobnibdeimiinaa
open Go.RowKit

theorem pendN_take (k : Int) (l : List Zn) (i : Nat) (h : i < l.length) : pendN k (l.take (i + 1)) = pendN k (l.take i) + if l[i].pend = k then 1 else 0 := by
  rw [List.take_succ_eq_append_getElem h, pendN_append, pendN_cons]
  simp [pendN]
theorem pendN_le (k : Int) (l : List Zn) : pendN k l ≤ l.length := List.length_filter_le _ _
/-- The zones stand in w, which grew out of W. -/
structure ZnAt (w : World) (g : Nat) (l : List Zn) : Prop where
  lt : g < w.heap.size
  cell : ∀ i, (h : i < l.length) → ∀ j v, (znV l[i])[j]? = some v → w.cell? ⟨g, i * 9 + j, none⟩ = some v
theorem ZnAt.grow {w w' : World} {g : Nat} {l : List Zn} (h : ZnAt w g l) (b : Below w.heap.size w w') : ZnAt w' g l :=
  ⟨Nat.lt_of_lt_of_le h.lt b.size, fun i hi j v hv => (b.cell (p := ⟨g, _, none⟩) h.lt).trans (h.cell i hi j v hv)⟩
theorem OwnZ.at {w : World} {base g cap : Nat} {l : List Zn} (h : OwnZ w base g cap l) : ZnAt w g l := ⟨h.facts.2.1, fun i hi j v hv => h.cell i hi j v hv⟩
theorem ZnAt.nine {w : World} {g : Nat} {l : List Zn} (h : ZnAt w g l) (i : Nat) (hi : i < l.length) (z : Zn) (hz : z = l[i]) : w.cell? ⟨g, i * 9, none⟩ = some (.int .i64 z.id) ∧ w.cell? ⟨g, i * 9 + 1, none⟩ = some (.string z.fr) ∧ w.cell? ⟨g, i * 9 + 2, none⟩ = some (.string z.to) ∧ w.cell? ⟨g, i * 9 + 3, none⟩ = some (.int .i64 z.owner) ∧ w.cell? ⟨g, i * 9 + 4, none⟩ = some (.int .i64 z.epoch) ∧ w.cell? ⟨g, i * 9 + 5, none⟩ = some (.int .i64 z.pend) ∧ w.cell? ⟨g, i * 9 + 6, none⟩ = some (.int .i64 z.tt) ∧ w.cell? ⟨g, i * 9 + 7, none⟩ = some (.string z.key) ∧ w.cell? ⟨g, i * 9 + 8, none⟩ = some (.int .i64 z.nw) := by
  subst hz
  exact ⟨h.cell i hi 0 _ rfl, h.cell i hi 1 _ rfl, h.cell i hi 2 _ rfl, h.cell i hi 3 _ rfl, h.cell i hi 4 _ rfl, h.cell i hi 5 _ rfl, h.cell i hi 6 _ rfl, h.cell i hi 7 _ rfl, h.cell i hi 8 _ rfl⟩
set_option maxRecDepth 20000 in
set_option maxHeartbeats 2000000 in
theorem pending_any {ty : TypeId} {base p g zc : Nat} {m : Mp} {ho : Option Addr} {hl hc : Nat} {w : World} (h : (thDir ty base p g zc m ho hl hc).T w) (hm : m.zs.length ≤ 1000) (k : Int) :
    Calls Try.prog 76 #[.pointer (some ⟨p, 0, none⟩), .int .i64 k] w fun e w' => e = .returned (.int .i64 (pendN k m.zs : Nat)) ∧ Below w.heap.size w w' := by
  obtain ⟨hp, c0, c1, c2, c3, hf⟩ := dir_cells h
  have Hz := Lib.hid h.2.1.at
  obtain ⟨l, hL⟩ : ∃ l, l = m.zs := ⟨_, rfl⟩
  rw [← hL] at Hz c2 hm ⊢
  clear h hf c0 c1 c3 hL
  go_enter Try.func76, Try.ntmps76
  go_wp2_with fail
  go_loopw [5, 14] (fun s5 s14 wr => ∃ i n : Nat, s14 = .int .i64 i ∧ s5 = .int .i64 n ∧ i ≤ l.length ∧ n ≤ i ∧ Hid (n = pendN k (l.take i)) ∧ Below w.heap.size w wr) (fun _ s14 _ => l.length - (intOf s14).toNat)
  case atStart => exact ⟨0, 0, rfl, rfl, by omega, by omega, by simp [Hid, pendN], Below.refl _ _⟩
  case round =>
    obtain ⟨i, n, rfl, rfl, hi, hni, hn, wr_b⟩ := hrel
    by_cases hlt : i < l.length
    · obtain ⟨z, hz⟩ : ∃ z, z = l[i] := ⟨_, rfl⟩
      obtain ⟨d0, d1, d2, d3, d4, d5, d6, d7, d8⟩ := (Hz.out.grow wr_b).nine i hlt z hz
      have hs := wr_b.size
      have hpt := pendN_take k l i hlt
      rw [← hz] at hpt
      have Hpt := Lib.hid hpt
      clear hpt hz
      by_cases hk : z.pend = k
      · have hkb : (z.pend == k) = true := by rw [beq_iff_eq]; exact hk
        have Hk := Lib.hid hk
        clear hk
        go_wp2_with fail
        go_roundw
        case rel => exact ⟨i + 1, n + 1, by go_num, by go_num, by omega, by omega, by rw [Hid, Hpt.out, if_pos Hk.out, ← hn.out], (by repeat (first | with_reducible exact Below.refl _ _ | with_reducible assumption | with_reducible refine Below.drew ?_ | with_reducible refine below_drawn ?_ | with_reducible refine Below.alloc ?_ (by first | omega | (simp; done) | (simp; omega) | (simp at *; omega)) _ | with_reducible refine Below.setCell ?_ (by first | omega | (simp; done) | (simp; omega) | (simp at *; omega)) _ | with_reducible refine Below.trans ?_ (Below.mono (by assumption) (by first | omega | (simp; done) | (simp; omega) | (simp at *; omega)))))⟩
        case measure => simp [intOf]; omega
      · have hkb : (z.pend == k) = false := by rw [beq_eq_false_iff_ne]; exact hk
        have Hk := Lib.hid hk
        clear hk
        go_wp2_with fail
        go_roundw
        case rel => exact ⟨i + 1, n, by go_num, rfl, by omega, by omega, by rw [Hid, Hpt.out, if_neg Hk.out, ← hn.out]; rfl, (by repeat (first | with_reducible exact Below.refl _ _ | with_reducible assumption | with_reducible refine Below.drew ?_ | with_reducible refine below_drawn ?_ | with_reducible refine Below.alloc ?_ (by first | omega | (simp; done) | (simp; omega) | (simp at *; omega)) _ | with_reducible refine Below.setCell ?_ (by first | omega | (simp; done) | (simp; omega) | (simp at *; omega)) _ | with_reducible refine Below.trans ?_ (Below.mono (by assumption) (by first | omega | (simp; done) | (simp; omega) | (simp at *; omega)))))⟩
        case measure => simp [intOf]; omega
    · go_wp2_with fail
      go_ret
      exact ⟨by rw [hn.out, List.take_of_length_le (by omega)]; rfl, wr_b⟩
end Go.Proofs.Ytobnibdeimiinaa
