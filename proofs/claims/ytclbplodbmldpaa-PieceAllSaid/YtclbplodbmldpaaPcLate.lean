/- The queue of late pieces. -/
import Derived.Test.YtclbplodbmldpaaPcKnown
import Derived.ArgAppend
import Derived.Lib.SmallJoins
namespace Go.Proofs.Ytclbplodbmldpaa
open Go.RowKit

def QBytes (w : World) (G : Nat → Prop) (qo : Option Addr) (qc : Nat) (l : List UInt8) : Prop := (qo = none → l.length = 0 ∧ qc = 0) ∧ (0 < l.length → ∃ g o, qo = some ⟨g, o, none⟩ ∧ G g ∧ g < w.heap.size ∧ BRow w g o l)
/-- Late pieces: each with its place; G: the blocks of their bytes. -/
def LateAt (w : World) (p : List UInt8) (ao : Option Addr) (cap : Nat) (Q : List Nat) (G : Nat → Prop) : Prop :=
  (∀ g, G g → g < w.heap.size) ∧ ((ao = none ∧ Q = [] ∧ cap = 0) ∨ ∃ b off cur, ao = some ⟨b, off, none⟩ ∧ ¬ G b ∧ w.heap[b]? = some (.cells cur 40 (0, 0)) ∧ Q.length ≤ cap ∧ cap ≤ maxLen ∧ off + cap * 2 ≤ cur.size ∧
    ∀ i, (hi : i < Q.length) → cur[off + i * 2]? = some (.int .i64 Q[i]) ∧ ∃ qo qc, cur[off + i * 2 + 1]? = some (.slice qo (pieceOf p Q[i]).length qc) ∧ QBytes w G qo qc (pieceOf p Q[i]))
theorem QBytes.stay {w w' : World} {G S : Nat → Prop} {qo : Option Addr} {qc : Nat} {l : List UInt8} (h : QBytes w G qo qc l) (k : Keeps w w' S) (hS : ∀ x, G x → ¬ S x) : QBytes w' G qo qc l := ⟨h.1, fun hp => by
  obtain ⟨g, o, e, hg, hlt, hr⟩ := h.2 hp
  exact ⟨g, o, e, hg, Nat.lt_of_lt_of_le hlt k.size, hr.keeps hlt k (hS g hg)⟩⟩
theorem QBytes.weak {w : World} {G H : Nat → Prop} {qo : Option Addr} {qc : Nat} {l : List UInt8} (h : QBytes w G qo qc l) (hH : ∀ x, G x → H x) : QBytes w H qo qc l := ⟨h.1, fun hp => by
  obtain ⟨g, o, e, hg, hlt, hr⟩ := h.2 hp
  exact ⟨g, o, e, hH g hg, hlt, hr⟩⟩
def thLate (p : List UInt8) (ao : Option Addr) (cap : Nat) (Q : List Nat) (G : Nat → Prop) : Th where
  T w := LateAt w p ao cap Q G
  F x := (∃ a, ao = some a ∧ a.block = x) ∨ G x
  stay {w w' S} h k hS := by
    obtain ⟨hG, h⟩ := h
    refine ⟨fun g hg => Nat.lt_of_lt_of_le (hG g hg) k.size, ?_⟩
    rcases h with h | ⟨b, off, cur, rfl, hb, hh, h1, h2, h3, h4⟩
    · exact .inl h
    · refine .inr ⟨b, off, cur, rfl, hb, (k.block b (lt_of_block hh) (hS b (.inl ⟨_, rfl, rfl⟩))).trans hh, h1, h2, h3, fun i hi => ?_⟩
      obtain ⟨c0, qo, qc, c1, hq⟩ := h4 i hi
      exact ⟨c0, qo, qc, c1, hq.stay k (fun x hx => hS x (.inr hx))⟩
  lt {w x} h hx := by
    rcases hx with ⟨a, rfl, rfl⟩ | hx
    · rcases h.2 with ⟨h, -⟩ | ⟨b, off, cur, e, -, hh, -⟩
      · cases h
      · simp only [Option.some.injEq] at e
        subst e
        exact lt_of_block hh
    · exact h.1 x hx
def thOut (p g : Nat) (l : List UInt8) (k : Nat) : Th where
  T w := SAt w p g 55 l k
  F x := x = p ∨ (x = g ∧ 0 < l.length)
  stay h k hS := h.keeps k (hS _ (.inl rfl)) (fun hl => hS _ (.inr ⟨rfl, hl⟩))
  lt h hx := by
    rcases hx with rfl | ⟨rfl, hl⟩
    · exact h.lt
    · exact h.glt hl
def thIn (p base : Nat) (l : List UInt8) (size : Int) (o : Option Nat) : Th where
  T w := InAt w p base l size o
  F := Foot p o
  stay h k hS := h.keeps k (hS _ (.inl rfl)) (fun g hg => hS g (.inr hg))
  lt h hx := by
    rcases hx with rfl | hx
    · exact h.lt.1
    · exact (h.lt.2 _ hx).1
theorem late_nil (w : World) (p : List UInt8) : LateAt w p none 0 [] (fun _ => False) := ⟨fun _ h => h.elim, .inl ⟨rfl, rfl, rfl⟩⟩
/-- The first one, and what is left. -/
theorem LateAt.head {w : World} {p : List UInt8} {ao : Option Addr} {cap x : Nat} {Q : List Nat} {G : Nat → Prop} (h : LateAt w p ao cap (x :: Q) G) : ∃ b off qo qc, ao = some ⟨b, off, none⟩ ∧ b < w.heap.size ∧ 1 ≤ cap ∧ cap ≤ 9223372036854775807 ∧ w.cell? ⟨b, off, none⟩ = some (.int .i64 x) ∧ w.cell? ⟨b, off + 1, none⟩ = some (.slice qo (pieceOf p x).length qc) ∧ QBytes w G qo qc (pieceOf p x) := by
  rcases h.2 with ⟨-, h, -⟩ | ⟨b, off, cur, rfl, hb, hh, h1, h2, h3, h4⟩
  · cases h
  · obtain ⟨c0, qo, qc, c1, hq⟩ := h4 0 (by simp)
    simp only [Nat.zero_mul, Nat.add_zero, List.getElem_cons_zero] at c0 c1 hq
    simp only [List.length_cons] at h1
    unfold maxLen at h2
    exact ⟨b, off, qo, qc, rfl, lt_of_block hh, by omega, by omega, (Go.Joins.cell_of_block hh off).trans c0, (Go.Joins.cell_of_block hh (off + 1)).trans c1, hq⟩
theorem LateAt.tail {w : World} {p : List UInt8} {b off cap x : Nat} {Q : List Nat} {G : Nat → Prop} (h : LateAt w p (some ⟨b, off, none⟩) cap (x :: Q) G) (off' : Nat) (ho : 1 < cap → off' = off + 2) (hle : off' ≤ off + 2) : LateAt w p (some ⟨b, off', none⟩) (cap - 1) Q G := by
  refine ⟨h.1, ?_⟩
  rcases h.2 with ⟨h, -⟩ | ⟨b', o', cur, e, hb, hh, h1, h2, h3, h4⟩
  · cases h
  · simp only [Option.some.injEq, Addr.mk.injEq, and_true] at e
    obtain ⟨rfl, rfl⟩ := e
    simp only [List.length_cons] at h1
    refine .inr ⟨b, off', cur, rfl, hb, hh, by omega, by omega, (by rcases Nat.lt_or_ge 1 cap with hc | hc; (have := ho hc; omega); omega), fun i hi => ?_⟩
    have h5 := ho (by omega)
    obtain ⟨c0, qo, qc, c1, hq⟩ := h4 (i + 1) (by simpa using hi)
    simp only [List.getElem_cons_succ] at c0 c1 hq
    rw [h5, show off + 2 + i * 2 = off + (i + 1) * 2 from by omega]
    exact ⟨c0, qo, qc, c1, hq⟩
/-- The cells of all of them, one behind the other. -/
theorem LateAt.olds {w : World} {p : List UInt8} {ao : Option Addr} {cap : Nat} {Q : List Nat} {G : Nat → Prop} (h : LateAt w p ao cap Q G) : ∃ xs : List Value, xs.length = Q.length * 2 ∧ (∀ b, ao = some b → ∀ j u, xs[j]? = some u → w.cell? (b.add j) = some u) ∧
    ∀ i, (hi : i < Q.length) → xs[i * 2]? = some (.int .i64 Q[i]) ∧ ∃ qo qc, xs[i * 2 + 1]? = some (.slice qo (pieceOf p Q[i]).length qc) ∧ QBytes w G qo qc (pieceOf p Q[i]) := by
  rcases h.2 with ⟨rfl, rfl, rfl⟩ | ⟨b, off, cur, rfl, hb, hh, h1, h2, h3, h4⟩
  · exact ⟨[], rfl, fun b hb => (nomatch hb), fun i hi => absurd hi (by simp)⟩
  · refine ⟨(cur.toList.drop off).take (Q.length * 2), by simp; omega, fun a ha j u hu => ?_, fun i hi => ?_⟩
    · simp only [Option.some.injEq] at ha
      subst ha
      rw [add_none, Go.Joins.cell_of_block hh]
      rw [List.getElem?_take] at hu
      split at hu
      · rw [List.getElem?_drop] at hu
        simpa using hu
      · cases hu
    · obtain ⟨c0, qo, qc, c1, hq⟩ := h4 i hi
      rw [List.getElem?_take, if_pos (by omega), List.getElem?_drop, List.getElem?_take, if_pos (by omega), List.getElem?_drop]
      exact ⟨by simpa using c0, qo, qc, by rw [← Nat.add_assoc]; simpa using c1, hq⟩
/-- Behind an append without room: a new row. -/
theorem late_grown {w w1 : World} {p : List UInt8} {ao : Option Addr} {cap x : Nat} {Q : List Nat} {G H : Nat → Prop} {xs : List Value} {v : Value} {qo : Option Addr} {qc base : Nat} (h : LateAt w p ao cap Q G) (hxl : xs.length = Q.length * 2)
    (hx : ∀ i, (hi : i < Q.length) → xs[i * 2]? = some (.int .i64 Q[i]) ∧ ∃ qo qc, xs[i * 2 + 1]? = some (.slice qo (pieceOf p Q[i]).length qc) ∧ QBytes w G qo qc (pieceOf p Q[i]))
    (hb : Below w.heap.size w w1) (hq : QBytes w H qo qc (pieceOf p x)) (hH : ∀ g, H g → g < w.heap.size) (hbase : w.heap.size ≤ base)
    (hown : w1.ownsRow base 40 2 v (Q.length + 1) (xs ++ [.int .i64 x, .slice qo (pieceOf p x).length qc])) : ∃ co cc, v = .slice co (Q.length + 1) cc ∧ LateAt w1 p co cc (Q ++ [x]) (fun g => G g ∨ H g) ∧ (∀ a, co = some a → w.heap.size ≤ a.block) := by
  have hkeep : ∀ {K : Nat → Prop} {ro : Option Addr} {rc : Nat} {l : List UInt8}, QBytes w K ro rc l → QBytes w1 K ro rc l := fun hr => hr.stay (keeps_same hb (fun _ => False)) (fun _ _ h => h)
  rcases hown.2 with ⟨-, h0⟩ | ⟨g, cc, cur, rfl, hbg, hh, h1, h2, h3, h4⟩
  · omega
  · refine ⟨some ⟨g, 0, none⟩, cc, rfl, ⟨fun y hy => ?_, .inr ⟨g, 0, cur, rfl, fun hg => ?_, hh, by simpa using h1, h2, by omega, fun i hi => ?_⟩⟩, fun a ha => by simp only [Option.some.injEq] at ha; subst ha; simp only; omega⟩
    · rcases hy with hy | hy
      · exact Nat.lt_of_lt_of_le (h.1 y hy) hb.size
      · exact Nat.lt_of_lt_of_le (hH y hy) hb.size
    · rcases hg with hg | hg
      · have := h.1 g hg; omega
      · have := hH g hg; omega
    · have hget : ∀ j, j < (Q.length + 1) * 2 → cur[j]? = (xs ++ [Value.int .i64 x, .slice qo (pieceOf p x).length qc])[j]? := fun j hj => by
        rw [← h4, List.getElem?_take, if_pos hj]; simp
      simp only [List.length_append, List.length_cons, List.length_nil] at hi
      rw [Nat.zero_add, hget (i * 2) (by omega), hget (i * 2 + 1) (by omega)]
      by_cases hlt : i < Q.length
      · obtain ⟨c0, ro, rc, c1, hr⟩ := hx i hlt
        rw [List.getElem?_append_left (by omega), List.getElem?_append_left (by omega), List.getElem_append_left hlt]
        exact ⟨c0, ro, rc, c1, (hkeep hr).weak (fun _ h => .inl h)⟩
      · have hiQ : i = Q.length := by omega
        subst hiQ
        rw [List.getElem?_append_right (by omega), List.getElem?_append_right (by omega), List.getElem_append_right (Nat.le_refl _)]
        simp only [hxl, Nat.sub_self, show Q.length * 2 + 1 - Q.length * 2 = 1 from by omega]
        exact ⟨rfl, qo, qc, rfl, (hkeep hq).weak (fun _ h => .inr h)⟩
/-- Behind an append with room. -/
theorem late_room {w w0 : World} {p : List UInt8} {b off cap x : Nat} {Q : List Nat} {G H : Nat → Prop} {qo : Option Addr} {qc : Nat} (h : LateAt w p (some ⟨b, off, none⟩) cap Q G) (hroom : Q.length + 1 ≤ cap) (hb0 : Below w.heap.size w w0)
    (hq : QBytes w H qo qc (pieceOf p x)) (hH : ∀ g, H g → g < w.heap.size ∧ g ≠ b) : LateAt (w0.setCells b (off + Q.length * 2) [.int .i64 x, .slice qo (pieceOf p x).length qc]) p (some ⟨b, off, none⟩) cap (Q ++ [x]) (fun g => G g ∨ H g) ∧
    Keeps w (w0.setCells b (off + Q.length * 2) [.int .i64 x, .slice qo (pieceOf p x).length qc]) (fun y => y = b) := by
  have hk : Keeps w (w0.setCells b (off + Q.length * 2) [.int .i64 x, .slice qo (pieceOf p x).length qc]) (fun y => y = b) :=
    (keeps_same hb0 (fun y => y = b)).trans ((Keeps.set w0 ⟨b, off + Q.length * 2, none⟩ _).trans (Keeps.set _ ⟨b, off + Q.length * 2 + 1, none⟩ _) (fun _ h => h) (fun _ _ h => h)) (fun _ h => h) (fun _ _ h => h)
  refine ⟨⟨fun y hy => ?_, ?_⟩, hk⟩
  · rcases hy with hy | hy
    · exact Nat.lt_of_lt_of_le (h.1 y hy) hk.size
    · exact Nat.lt_of_lt_of_le (hH y hy).1 hk.size
  · rcases h.2 with ⟨h, -⟩ | ⟨b', o', cur, e, hb, hh, h1, h2, h3, h4⟩
    · cases h
    · simp only [Option.some.injEq, Addr.mk.injEq, and_true] at e
      obtain ⟨rfl, rfl⟩ := e
      have hh0 : w0.heap[b]? = some (.cells cur 40 (0, 0)) := (hb0.block b (lt_of_block hh)).trans hh
      have hh1 := Go.Joins.block_setCell (i := off + Q.length * 2) hh0 (.int .i64 x)
      have hh2 := Go.Joins.block_setCell (i := off + Q.length * 2 + 1) hh1 (.slice qo (pieceOf p x).length qc)
      refine .inr ⟨b, off, _, rfl, fun hg => ?_, hh2, by simpa using hroom, h2, by simp; omega, fun i hi => ?_⟩
      · rcases hg with hg | hg
        · exact hb hg
        · exact (hH b hg).2 rfl
      · simp only [List.length_append, List.length_cons, List.length_nil] at hi
        by_cases hlt : i < Q.length
        · obtain ⟨c0, ro, rc, c1, hr⟩ := h4 i hlt
          rw [List.getElem_append_left hlt]
          refine ⟨?_, ro, rc, ?_, (hr.stay hk (fun y hy e => hb (e ▸ hy))).weak (fun _ h => .inl h)⟩
          · rw [Array.getElem?_setIfInBounds_ne (by omega), Array.getElem?_setIfInBounds_ne (by omega)]; exact c0
          · rw [Array.getElem?_setIfInBounds_ne (by omega), Array.getElem?_setIfInBounds_ne (by omega)]; exact c1
        · have hiQ : i = Q.length := by omega
          subst hiQ
          rw [List.getElem_append_right (Nat.le_refl _)]
          simp only [Nat.sub_self, List.getElem_cons_zero]
          refine ⟨?_, qo, qc, ?_, (hq.stay hk (fun y hy e => (hH y hy).2 e)).weak (fun _ h => .inr h)⟩
          · rw [Array.getElem?_setIfInBounds_ne (by omega), Array.getElem?_setIfInBounds_self_of_lt (by omega)]
          · rw [Array.getElem?_setIfInBounds_self_of_lt (by simp; omega)]
end Go.Proofs.Ytclbplodbmldpaa
