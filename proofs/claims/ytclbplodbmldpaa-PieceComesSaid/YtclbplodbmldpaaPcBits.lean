/- Pieces that came in, opened; both In's, under way. -/
import Derived.Test.YtclbplodbmldpaaPcKnown
namespace Go.Proofs.Ytclbplodbmldpaa
open Go.ChangeShapes Go.WideShapes Go.Deep Go.RowKit

structure BitR where
  off : Int
  ao : Option Addr
  cap : Nat
  bs : List UInt8
structure BitAt (W : World) (b o : Nat) (r : BitR) : Prop where
  c0 : W.cell? ⟨b, o, none⟩ = some (.int .i64 r.off)
  c1 : W.cell? ⟨b, o + 1, none⟩ = some (.slice r.ao r.bs.length r.cap)
  le : r.bs.length ≤ r.cap
  cm : r.cap ≤ 9223372036854775807
  n0 : r.ao = none → r.bs.length = 0 ∧ r.cap = 0
  at_ : BAt W r.ao r.bs
theorem open_bits {H : Type} {enc : TypeId × Value → H} {W : World} {v : Value} {d : DataW H} {p : List MemPlace} {b : Nat} (hv : Value.okWide Try.prog W .any b 38 v) (h : DataW.Trod enc Try.prog W 0 (fun _ => true) true 38 v d p) :
    ∃ bo L bcap, v = .slice bo (L : List BitR).length bcap ∧ L.length ≤ 9223372036854775807 ∧ (0 < L.length → ∃ b off, bo = some ⟨b, off, none⟩ ∧ b < W.heap.size ∧ ∀ i, (hi : i < L.length) → BitAt W b (off + i * 2) L[i]) := by
  obtain ⟨a1, len, c, rfl⟩ := okWide_slice Try.underlying38 hv
  obtain ⟨fuel, hf⟩ := h
  rcases open_slice_fields Try.underlying38 Try.underlying40 (by kernel_rfl) (by kernel_rfl) hf with ⟨hcs, hx⟩ | ⟨a, len', cap, m, D, Pl, hcs, hb, hl, hm, hmm, hx, hi⟩
  · simp [Value.cells] at hcs
    obtain ⟨rfl, rfl, rfl⟩ := hcs
    exact ⟨none, [], 0, rfl, by simp, fun h => absurd h (by simp)⟩
  · simp [Value.cells] at hcs
    obtain ⟨rfl, rfl, rfl⟩ := hcs
    simp only [if_true] at hmm
    subst hmm
    obtain ⟨L, hL, hR⟩ : ∃ L : List BitR, L.length = len ∧ ∀ i, (hi : i < L.length) → W.cell? (a.add (i * 2)) = some (.int .i64 L[i].off) ∧ W.cell? (a.add (i * 2 + 1)) = some (.slice L[i].ao L[i].bs.length L[i].cap) ∧ L[i].bs.length ≤ L[i].cap ∧ L[i].cap ≤ 9223372036854775807 ∧ (L[i].ao = none → L[i].bs.length = 0 ∧ L[i].cap = 0) ∧ BAt W L[i].ao L[i].bs := by
      refine choose_list (P := fun i (r : BitR) => W.cell? (a.add (i * 2)) = some (.int .i64 r.off) ∧ W.cell? (a.add (i * 2 + 1)) = some (.slice r.ao r.bs.length r.cap) ∧ r.bs.length ≤ r.cap ∧ r.cap ≤ 9223372036854775807 ∧ (r.ao = none → r.bs.length = 0 ∧ r.cap = 0) ∧ BAt W r.ao r.bs) len fun i hil => ?_
      obtain ⟨ys, n, -, -, -, hf⟩ := hi i (by omega)
      obtain ⟨u0, y0, hc0, -, ht0⟩ := hf 0 _ rfl
      obtain ⟨u1, y1, hc1, -, ht1⟩ := hf 1 _ rfl
      obtain ⟨q, e, -, -⟩ := DataW.trod_int Try.underlying3 ht0
      obtain ⟨ao, l, cp, hcs1, h1, h2, h3, h4⟩ := trod_bytes ht1
      simp only [List.cons.injEq, and_true] at e hcs1
      subst e hcs1
      exact ⟨(⟨q, ao, cp, l⟩ : BitR), hc0, hc1, h1, by unfold maxLen at h2; exact h2, h3, h4⟩
    refine ⟨some a, L, _, by rw [hL], by unfold maxLen at hm; omega, fun hp => ?_⟩
    obtain ⟨ab, ao, spot⟩ := a
    have h0 := (hR 0 hp).1
    have hspot : spot = none := by simpa [Addr.add] using World.cell?_spot h0
    subst hspot
    rw [add_none] at h0
    refine ⟨ab, ao, rfl, lt_of_cellB h0, fun i hi => ?_⟩
    obtain ⟨g1, g2, g3, g4, g5, g6⟩ := hR i hi
    rw [add_none] at g1 g2
    exact ⟨g1, g2, g3, g4, g5, g6⟩

/-- Both of them, under way. -/
structure IInv (W w : World) (pi px : Nat) (l : List UInt8) (size : Int) (o o2 : Option Nat) : Prop where
  i : InAt w pi W.heap.size l size o
  x : RInAt w px W.heap.size l size o2
  b : Below W.heap.size W w
  hpi : W.heap.size ≤ pi
  hpx : W.heap.size ≤ px
  ne : pi ≠ px
  hox : o ≠ some px
  hoi : o2 ≠ some pi
  hoo : ∀ g, o = some g → o2 ≠ some g
  hl : (l.length : Int) ≤ size
theorem IInv.grow {W w w' : World} {pi px : Nat} {l : List UInt8} {size : Int} {o o2 : Option Nat} (h : IInv W w pi px l size o o2) (b : Below w.heap.size w w') : IInv W w' pi px l size o o2 :=
  ⟨h.i.grow b, h.x.grow b, h.b.trans (b.mono h.b.size), h.hpi, h.hpx, h.ne, h.hox, h.hoi, h.hoo, h.hl⟩
theorem takeOf_le (l : List UInt8) (size off : Int) (bs : List UInt8) (h : (l.length : Int) ≤ size) : ((takeOf l size off bs).length : Int) ≤ size := by
  unfold takeOf; split
  · rename_i h1; rw [List.length_append]; omega
  · exact h
theorem IInv.xmid {W w w1 : World} {pi px : Nat} {l : List UInt8} {size : Int} {o o2 : Option Nat} (h : IInv W w pi px l size o o2) (k1 : Keeps w w1 (Foot pi o)) : RInAt w1 px W.heap.size l size o2 :=
  h.x.keeps k1 (fun s => by rcases s with s | s; exact h.ne s.symm; exact h.hox s) (fun g hg s => by rcases s with s | s; exact h.hoi (s ▸ hg); exact h.hoo g s hg)
theorem IInv.below {W w w1 : World} {pi px : Nat} {l : List UInt8} {size : Int} {o o2 : Option Nat} (h : IInv W w pi px l size o o2) (k1 : Keeps w w1 (Foot pi o)) : Below W.heap.size W w1 :=
  h.b.trans (k1.below (fun g s => by rcases s with s | s; (have := h.hpi; omega); exact (h.i.lt.2 g s).2) h.b.size)
theorem IInv.took {W w w1 w2 : World} {pi px : Nat} {l l' : List UInt8} {size : Int} {o o2 o' o2' : Option Nat} (h : IInv W w pi px l size o o2) (k1 : Keeps w w1 (Foot pi o)) (k2 : Keeps w1 w2 (Foot px o2))
    (i1 : InAt w1 pi W.heap.size l' size o') (f1 : ∀ g, o' = some g → o = some g ∨ w.heap.size ≤ g) (x2 : RInAt w2 px W.heap.size l' size o2') (f2 : ∀ g, o2' = some g → o2 = some g ∨ w1.heap.size ≤ g) (hl' : (l'.length : Int) ≤ size) :
    IInv W w2 pi px l' size o' o2' := by
  have hpi := h.i.lt.1
  have hpx := h.x.lt.1
  have hs := k1.size
  have ho2 : ∀ g, o' = some g → o2 ≠ some g := fun g hg h2 => by
    rcases f1 g hg with h1 | h1
    · exact h.hoo g h1 h2
    · have := (h.x.lt.2 g h2).1; omega
  have hopx : o' ≠ some px := fun hg => by
    rcases f1 px hg with h1 | h1
    · exact h.hox h1
    · omega
  refine ⟨i1.keeps k2 (fun s => by rcases s with s | s; exact h.ne s; exact h.hoi s) (fun g hg s => by rcases s with s | s; exact hopx (s ▸ hg); exact ho2 g hg s), x2, (h.below k1).trans (k2.below (fun g s => by rcases s with s | s; (have := h.hpx; omega); exact (h.x.lt.2 g s).2) (h.below k1).size), h.hpi, h.hpx, h.ne, hopx, fun hg => ?_, fun g hg h2 => ?_, hl'⟩
  · rcases f2 pi hg with h1 | h1
    · exact h.hoi h1
    · omega
  · rcases f2 g h2 with h1 | h1
    · exact ho2 g hg h1
    · have := (i1.lt.2 g hg).1; omega
theorem IInv.keep {W w w' : World} {pi px : Nat} {l : List UInt8} {size : Int} {o o2 : Option Nat} {S : Nat → Prop} (h : IInv W w pi px l size o o2) (k : Keeps w w' S) (hS : ∀ x, S x → W.heap.size ≤ x ∧ x ≠ pi ∧ x ≠ px ∧ o ≠ some x ∧ o2 ≠ some x) : IInv W w' pi px l size o o2 :=
  ⟨h.i.keeps k (fun s => (hS _ s).2.1 rfl) (fun _ hg s => (hS _ s).2.2.2.1 hg), h.x.keeps k (fun s => (hS _ s).2.2.1 rfl) (fun _ hg s => (hS _ s).2.2.2.2 hg), h.b.trans (k.below (fun x s => (hS x s).1) h.b.size), h.hpi, h.hpx, h.ne, h.hox, h.hoi, h.hoo, h.hl⟩
end Go.Proofs.Ytclbplodbmldpaa
