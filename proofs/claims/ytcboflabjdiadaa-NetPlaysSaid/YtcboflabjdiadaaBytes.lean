/- Rows of bytes in memory: that came in, that the call made; what is kept when some blocks are written. -/
import Derived.Test.YtcboflabjdiadaaOwn
import Derived.Test.YtcboflabjdiadaaOpen
namespace Go.Proofs.Ytcboflabjdiadaa
open Go.RowKit

/-- All blocks but those of S are as they were. -/
structure Keeps (w w' : World) (S : Nat → Prop) : Prop where
  os : w'.os = w.os
  tape : w'.tape = w.tape
  output : w'.output = w.output
  size : w.heap.size ≤ w'.heap.size
  block : ∀ k, k < w.heap.size → ¬ S k → w'.heap[k]? = w.heap[k]?
theorem Keeps.refl (w : World) (S : Nat → Prop) : Keeps w w S := ⟨rfl, rfl, rfl, Nat.le_refl _, fun _ _ _ => rfl⟩
theorem Keeps.trans {a b c : World} {S T U : Nat → Prop} (h : Keeps a b S) (k : Keeps b c T) (hS : ∀ i, S i → U i) (hT : ∀ i, i < a.heap.size → T i → U i) : Keeps a c U :=
  ⟨k.os.trans h.os, k.tape.trans h.tape, k.output.trans h.output, Nat.le_trans h.size k.size, fun i hi hn =>
    (k.block i (Nat.lt_of_lt_of_le hi h.size) fun t => hn (hT i hi t)).trans (h.block i hi fun s => hn (hS i s))⟩
theorem Keeps.weak {a b : World} {S T : Nat → Prop} (h : Keeps a b S) (hS : ∀ i, i < a.heap.size → S i → T i) : Keeps a b T :=
  ⟨h.os, h.tape, h.output, h.size, fun i hi hn => h.block i hi fun s => hn (hS i hi s)⟩
theorem Keeps.of_below {B : Nat} {a b : World} (h : Below B a b) : Keeps a b (fun k => B ≤ k) := ⟨h.os, h.tape, h.output, h.size, fun i _ hn => h.block i (Nat.lt_of_not_le hn)⟩
theorem Keeps.of_grown {B : Nat} {a b : World} (h : Below B a b) (hB : a.heap.size ≤ B) (S : Nat → Prop) : Keeps a b S := ⟨h.os, h.tape, h.output, h.size, fun i hi _ => h.block i (Nat.lt_of_lt_of_le hi hB)⟩
theorem Keeps.below {B : Nat} {a b : World} {S : Nat → Prop} (h : Keeps a b S) (hS : ∀ k, S k → B ≤ k) (hB : B ≤ a.heap.size) : Below B a b :=
  ⟨h.os, h.tape, h.output, h.size, fun k hk => h.block k (by omega) fun s => by have := hS k s; omega⟩
theorem Keeps.grown {a b : World} {row : Option Nat} (h : a.grownBy b row) : Keeps a b (fun k => some k = row) := ⟨h.os, h.tape, h.output, h.size, fun k hk hn => h.block k hk hn⟩
theorem Keeps.cell {a b : World} {S : Nat → Prop} (h : Keeps a b S) {p : Addr} (hp : p.block < a.heap.size) (hn : ¬ S p.block) : b.cell? p = a.cell? p := World.cell?_of_block (w := a) (h.block p.block hp hn)
theorem Keeps.frozen {a b : World} {S : Nat → Prop} (h : Keeps a b S) {p : Addr} (hp : p.block < a.heap.size) (hn : ¬ S p.block) : b.frozen? p = a.frozen? p := World.frozen?_of_block (w := a) (h.block p.block hp hn)
theorem Keeps.set (w : World) (a : Addr) (v : Value) : Keeps w (w.setCell a v) (fun x => x = a.block) := ⟨rfl, rfl, rfl, by simp [World.setCell], fun k _ hn => Below.heap_setCell _ _ _ _ hn⟩

def bytV (l : List UInt8) : List Value := l.map fun c => .int .u8 (c.toNat : Int)
theorem bytV_length (l : List UInt8) : (bytV l).length = l.length := by simp [bytV]
theorem bytV_append (a b : List UInt8) : bytV a ++ bytV b = bytV (a ++ b) := by simp [bytV]
theorem bytV_one (l : List UInt8) : ∀ u ∈ bytV l, u.oneCell' = true := by
  intro u hu
  simp only [bytV, List.mem_map] at hu
  obtain ⟨c, -, rfl⟩ := hu
  rfl
theorem bytV_get (l : List UInt8) (i : Nat) (h : i < l.length) : (bytV l)[i]? = some (.int .u8 (l[i].toNat : Int)) := by simp [bytV, h]

/-- The bytes lie from b, off on. -/
def BRow (w : World) (b off : Nat) (l : List UInt8) : Prop := ∀ i, (h : i < l.length) → w.cell? ⟨b, off + i, none⟩ = some (.int .u8 (l[i].toNat : Int))
/-- A slice's address leads to the bytes: where there is one. -/
def BAt (w : World) (ao : Option Addr) (l : List UInt8) : Prop := 0 < l.length → ∃ b off, ao = some ⟨b, off, none⟩ ∧ b < w.heap.size ∧ BRow w b off l
theorem BRow.keeps {w w' : World} {b off : Nat} {l : List UInt8} {S : Nat → Prop} (h : BRow w b off l) (hb : b < w.heap.size) (k : Keeps w w' S) (hn : ¬ S b) : BRow w' b off l := fun i hi => (k.cell (p := ⟨b, _, none⟩) hb hn).trans (h i hi)
theorem BRow.below {w w' : World} {b off B : Nat} {l : List UInt8} (h : BRow w b off l) (hb : b < B) (k : Below B w w') : BRow w' b off l := fun i hi => (k.cell (p := ⟨b, _, none⟩) hb).trans (h i hi)
theorem BAt.below {w w' : World} {ao : Option Addr} {l : List UInt8} (h : BAt w ao l) (k : Below w.heap.size w w') : BAt w' ao l := fun hp =>
  let ⟨b, off, e, hb, hr⟩ := h hp
  ⟨b, off, e, Nat.lt_of_lt_of_le hb k.size, hr.below hb k⟩
theorem BAt.nil {w : World} {ao : Option Addr} : BAt w ao [] := fun h => by simp at h
theorem BRow.at {w : World} {b off : Nat} {l : List UInt8} (h : BRow w b off l) (hb : b < w.heap.size) : BAt w (some ⟨b, off, none⟩) l := fun _ => ⟨b, off, rfl, hb, h⟩
theorem BRow.cells {w : World} {b off : Nat} {l : List UInt8} (h : BRow w b off l) : ∀ j u, (bytV l)[j]? = some u → w.cell? ((⟨b, off, none⟩ : Addr).add j) = some u := by
  intro j u hu
  have hj : j < l.length := by rw [← bytV_length]; exact (List.getElem?_eq_some_iff.1 hu).1
  rw [bytV_get l j hj] at hu
  rw [add_none, ← hu]
  exact h j hj
theorem BAt.cells {w : World} {ao : Option Addr} {l : List UInt8} (h : BAt w ao l) : ∀ ad, ao = some ad → ∀ j u, (bytV l)[j]? = some u → w.cell? (ad.add j) = some u := by
  intro ad had j u hu
  by_cases hp : 0 < l.length
  · obtain ⟨b, off, e, -, hr⟩ := h hp
    rw [had] at e
    obtain rfl : ad = ⟨b, off, none⟩ := by simpa using e
    exact hr.cells j u hu
  · have : l = [] := by cases l with
      | nil => rfl
      | cons x r => simp at hp
    subst this
    simp [bytV] at hu
/-- A slice of bytes that the call made: its value is v; o: its block. -/
def OwnB (w : World) (base : Nat) (ao : Option Addr) (cap : Nat) (l : List UInt8) : Prop := w.ownsRow base 5 1 (.slice ao l.length cap) l.length (bytV l)
theorem OwnB.at {w : World} {base : Nat} {ao : Option Addr} {cap : Nat} {l : List UInt8} (h : OwnB w base ao cap l) : BAt w ao l := by
  intro hp
  rcases h.2 with ⟨hv, h0⟩ | ⟨g, c, cur, hv, hg, hh, -⟩
  · omega
  · simp only [Value.slice.injEq] at hv
    obtain ⟨rfl, -, rfl⟩ := hv
    refine ⟨g, 0, rfl, (Array.getElem?_eq_some_iff.1 hh).1, fun i hi => ?_⟩
    have := h.cellAt i (by omega)
    rw [bytV_get l i hi] at this
    simpa using this
theorem OwnB.none {w : World} {base : Nat} {ao : Option Addr} {cap : Nat} {l : List UInt8} (h : OwnB w base ao cap l) : ao = .none → l.length = 0 ∧ cap = 0 := by
  intro e
  subst e
  rcases h.2 with ⟨hv, h0⟩ | ⟨g, c, cur, hv, -⟩
  · simp only [Value.slice.injEq] at hv; exact ⟨h0, hv.2.2⟩
  · simp at hv
theorem OwnB.le {w : World} {base : Nat} {ao : Option Addr} {cap : Nat} {l : List UInt8} (h : OwnB w base ao cap l) : l.length ≤ cap ∧ cap ≤ 9223372036854775807 := by
  rcases h.2 with ⟨hv, h0⟩ | ⟨g, c, cur, hv, -, -, h1, h2, -⟩
  · simp only [Value.slice.injEq] at hv; omega
  · simp only [Value.slice.injEq] at hv
    obtain ⟨-, -, rfl⟩ := hv
    unfold maxLen at h2
    omega
theorem OwnB.row {w : World} {base : Nat} {ao : Option Addr} {cap : Nat} {l : List UInt8} (h : OwnB w base ao cap l) (hp : 0 < l.length) : ∃ g, ao = some ⟨g, 0, Option.none⟩ ∧ base ≤ g ∧ g < w.heap.size ∧ BRow w g 0 l := by
  obtain ⟨b, off, e, hlt, hr⟩ := h.at hp
  rcases h.2 with ⟨hv, h0⟩ | ⟨g, c, cur, hv, hb, -⟩
  · omega
  · simp only [Value.slice.injEq] at hv
    rw [hv.1] at e
    simp only [Option.some.injEq, Addr.mk.injEq, and_true] at e
    obtain ⟨rfl, rfl⟩ := e
    exact ⟨g, hv.1, hb, hlt, hr⟩
theorem own_weak {w : World} {b c : Nat} {ao : Option Addr} {cap : Nat} {l : List UInt8} (h : OwnB w b ao cap l) (hc : c ≤ b) : OwnB w c ao cap l := by
  obtain ⟨h1, h2⟩ := h
  refine ⟨h1, ?_⟩
  rcases h2 with h2 | ⟨g, c', cur, hv, hg, r⟩
  · exact Or.inl h2
  · exact Or.inr ⟨g, c', cur, hv, Nat.le_trans hc hg, r⟩
theorem owned_bytes {w : World} {base n : Nat} {v : Value} {l : List UInt8} (h : w.ownsRow base 5 1 v n (bytV l)) (hn : n = l.length) : ∃ ao cap, v = .slice ao l.length cap ∧ OwnB w base ao cap l := by
  subst hn
  rcases h.2 with ⟨hv, h0⟩ | ⟨g, c, cur, hv, -⟩
  · exact ⟨.none, 0, by rw [hv, h0], by unfold OwnB; rw [h0] at h ⊢; rw [hv] at h; exact h⟩
  · exact ⟨_, c, hv, by unfold OwnB; rw [hv] at h; exact h⟩
theorem byteInfo : (Try.prog.info? 5).map (fun i => (i.zero, i.size, i.bytes)) = some (some (.int .u8 0), 1, 1) := by kernel_rfl
/-- The post of a call that hands back bytes in new memory. -/
def FreshB (w : World) (l : List UInt8) (e : Ending) (w' : World) : Prop := ∃ ao cap, e = .returned (.slice ao l.length cap) ∧ OwnB w' w.heap.size ao cap l ∧ Below w.heap.size w w'
end Go.Proofs.Ytcboflabjdiadaa
