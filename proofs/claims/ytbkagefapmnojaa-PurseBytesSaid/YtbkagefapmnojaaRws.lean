/- Rows of bytes in memory: all their blocks lie in D. -/
import Derived.Test.YtbkagefapmnojaaBw
namespace Go.Proofs.Ytbkagefapmnojaa
open Go.RowKit

structure RowR where
  ao : Option Addr
  cap : Nat
  bs : List UInt8
def BIn (w : World) (D : Nat → Prop) (ao : Option Addr) (l : List UInt8) : Prop := 0 < l.length → ∃ b off, ao = some ⟨b, off, none⟩ ∧ b < w.heap.size ∧ D b ∧ BRow w b off l
structure RAt (w : World) (D : Nat → Prop) (b o : Nat) (r : RowR) : Prop where
  c : w.cell? ⟨b, o, none⟩ = some (.slice r.ao r.bs.length r.cap)
  le : r.bs.length ≤ r.cap
  cm : r.cap ≤ 9223372036854775807
  n0 : r.ao = none → r.bs.length = 0 ∧ r.cap = 0
  at_ : BIn w D r.ao r.bs
/-- Rows of bytes lie behind a slice's address. -/
def RsAt (w : World) (D : Nat → Prop) (ao : Option Addr) (L : List RowR) : Prop := 0 < L.length → ∃ b off, ao = some ⟨b, off, none⟩ ∧ b < w.heap.size ∧ D b ∧ ∀ i, (hi : i < L.length) → RAt w D b (off + i) L[i]
def flatR (L : List RowR) : List UInt8 := L.flatMap (·.bs)
theorem BIn.at {w : World} {D : Nat → Prop} {ao : Option Addr} {l : List UInt8} (h : BIn w D ao l) : BAt w ao l := fun hp =>
  let ⟨b, off, e, hb, _, hr⟩ := h hp
  ⟨b, off, e, hb, hr⟩
theorem BIn.keeps {w w' : World} {D S : Nat → Prop} {ao : Option Addr} {l : List UInt8} (h : BIn w D ao l) (k : Keeps w w' S) (hD : ∀ x, D x → ¬ S x) : BIn w' D ao l := fun hp =>
  let ⟨b, off, e, hb, hd, hr⟩ := h hp
  ⟨b, off, e, Nat.lt_of_lt_of_le hb k.size, hd, hr.keeps hb k (hD b hd)⟩
theorem BIn.weak {w : World} {D E : Nat → Prop} {ao : Option Addr} {l : List UInt8} (h : BIn w D ao l) (hE : ∀ x, x < w.heap.size → D x → E x) : BIn w E ao l := fun hp =>
  let ⟨b, off, e, hb, hd, hr⟩ := h hp
  ⟨b, off, e, hb, hE b hb hd, hr⟩
theorem BAt.in {w : World} {ao : Option Addr} {l : List UInt8} (h : BAt w ao l) : BIn w (fun x => x < w.heap.size) ao l := fun hp =>
  let ⟨b, off, e, hb, hr⟩ := h hp
  ⟨b, off, e, hb, hb, hr⟩
theorem RAt.keeps {w w' : World} {D S : Nat → Prop} {b o : Nat} {r : RowR} (h : RAt w D b o r) (k : Keeps w w' S) (hD : ∀ x, D x → ¬ S x) (hb : b < w.heap.size) (hd : D b) : RAt w' D b o r :=
  ⟨(k.cell (p := ⟨b, o, none⟩) hb (hD b hd)).trans h.c, h.le, h.cm, h.n0, h.at_.keeps k hD⟩
theorem RsAt.keeps {w w' : World} {D S : Nat → Prop} {ao : Option Addr} {L : List RowR} (h : RsAt w D ao L) (k : Keeps w w' S) (hD : ∀ x, D x → ¬ S x) : RsAt w' D ao L := fun hp =>
  let ⟨b, off, e, hb, hd, hr⟩ := h hp
  ⟨b, off, e, Nat.lt_of_lt_of_le hb k.size, hd, fun i hi => (hr i hi).keeps k hD hb hd⟩
theorem keeps_same {w w' : World} (h : Below w.heap.size w w') (S : Nat → Prop) : Keeps w w' S := Keeps.of_grown h (Nat.le_refl _) S
theorem RsAt.grow {w w' : World} {D : Nat → Prop} {ao : Option Addr} {L : List RowR} (h : RsAt w D ao L) (b : Below w.heap.size w w') : RsAt w' D ao L := h.keeps (keeps_same b (fun _ => False)) (fun _ _ h => h)
theorem RsAt.below {w w' : World} {B : Nat} {ao : Option Addr} {L : List RowR} (h : RsAt w (fun x => x < B) ao L) (b : Below B w w') : RsAt w' (fun x => x < B) ao L := h.keeps (Keeps.of_below b) (fun x h1 h2 => by omega)
end Go.Proofs.Ytbkagefapmnojaa
