/- An act's cells, as what holds throughout a drawn region; things beside both Nets. -/
import Derived.Test.YtcboflabjdiadaaNdG
import Derived.Test.YtcboflabjdiadaaFour
import Derived.Test.YtcboflabjdiadaaNetKnown
namespace Go.Proofs.Ytcboflabjdiadaa
open Go.RowKit

structure ActC (B : Nat) (k n m y : Value) (mo : Option Addr) (ml mc : Nat) (w : World) : Prop where
  c0 : w.cell? ⟨B, 0, none⟩ = some k
  c1 : w.cell? ⟨B, 1, none⟩ = some n
  c2 : w.cell? ⟨B, 2, none⟩ = some m
  c3 : w.cell? ⟨B, 3, none⟩ = some y
  c4 : w.cell? ⟨B, 4, none⟩ = some (.slice mo ml mc)
  lt : B < w.heap.size
theorem actC_of {B : Nat} {w : World} {k n m y : Value} {mo : Option Addr} {ml mc : Nat} (h : (thObj B (actO k n m y mo ml mc)).T w) : ActC B k n m y mo ml mc w := by
  obtain ⟨h0, h1, h2, h3, h4, h5⟩ := act_cells h
  exact ⟨h0, h1, h2, h3, h4, h5⟩
theorem Both.st {W w : World} {p x : Nat} {C D : List Ct} {R : List Th} (h : Both W w p x C D R) : ∃ L, St W w (L ++ R) ∧ ∀ w' R', St W w' (L ++ R') → Both W w' p x C D R' := by
  obtain ⟨ro, rc, l, ro2, rc2, l2, h1, h2, h3, h4, h5, h6, hS⟩ := h
  exact ⟨netnetL W.heap.size p ro rc l ++ netrefL W.heap.size x ro2 rc2 l2, by rw [List.append_assoc]; exact hS, fun w' R' hS' => ⟨ro, rc, l, ro2, rc2, l2, h1, h2, h3, h4, h5, h6, by rw [List.append_assoc] at hS'; exact hS'⟩⟩
theorem Both.perm {W w : World} {p x : Nat} {C D : List Ct} {R R' : List Th} (h : Both W w p x C D R) (hp : R.Perm R') : Both W w p x C D R' := by
  obtain ⟨L, hS, hb⟩ := h.st
  exact hb _ _ (hS.perm (List.Perm.append_left _ hp))
theorem Both.lose {W w w' : World} {p x : Nat} {C D : List Ct} {R : List Th} {t : Th} (h : Both W w p x C D (t :: R)) (k : Keeps w w' t.F) : Both W w' p x C D R := by
  obtain ⟨L, hS, hb⟩ := h.st
  exact hb _ _ ((hS.pull (A := L)).lose k)
theorem Both.step {W w w' : World} {p x : Nat} {C D : List Ct} {R : List Th} {t : Th} (h : Both W w p x C D (t :: R)) (t' : Th) (f : ∀ L, St W w (t :: L) → St W w' (t' :: L)) : Both W w' p x C D (t' :: R) := by
  obtain ⟨L, hS, hb⟩ := h.st
  exact hb _ _ ((f _ (hS.pull (A := L))).perm List.perm_middle.symm)
theorem Both.new {W w w' : World} {p x : Nat} {C D : List Ct} {R : List Th} (h : Both W w p x C D R) (t' : Th) (f : ∀ L, St W w L → St W w' (t' :: L)) : Both W w' p x C D (t' :: R) := by
  obtain ⟨L, hS, hb⟩ := h.st
  exact hb _ _ ((f _ hS).perm List.perm_middle.symm)
theorem Both.own {W w w' : World} {p x : Nat} {C D : List Ct} {R : List Th} {ao : Option Addr} {cap : Nat} {l : List UInt8} (h : Both W w p x C D R) (b : Below w.heap.size w w') (ho : OwnB w' w.heap.size ao cap l) : Both W w' p x C D (thOwn W.heap.size ao cap l :: R) :=
  h.new _ fun L hS => St.new hS b (thOwn W.heap.size ao cap l) (own_weak ho hS.b.size) (fun x hx => by
    obtain ⟨a, rfl, rfl⟩ := hx
    exact (own_lt ho a.block rfl).2)
theorem Both.nil {W w : World} {p x : Nat} {C D : List Ct} {R : List Th} (h : Both W w p x C D R) : Both W w p x C D (thOwn W.heap.size none 0 [] :: R) := h.new _ fun _ hS => hS.nil
/-- Give: whatever there is. -/
def gvR (C : List Ct) (n : Int) : Int × Int × List UInt8 × Bool := if h : 0 < C.length then ((C[pickOf C.length n]'(pickOf_lt h n)).1, (C[pickOf C.length n]'(pickOf_lt h n)).2.1, (C[pickOf C.length n]'(pickOf_lt h n)).2.2.1, true) else (0, 0, [], false)
def GvP (W : World) (p x : Nat) (C D : List Ct) (R : List Th) (g : Int × Int × List UInt8 × Bool) (e : Ending) (w' : World) : Prop := ∃ ao cap, e = .returned (.tuple #[.agg #[.int .i64 g.1, .int .i64 g.2.1, .slice ao g.2.2.1.length cap], .bool g.2.2.2]) ∧ g.2.2.1.length ≤ 140737488351232 ∧ Both W w' p x C D (thOwn W.heap.size ao cap g.2.2.1 :: R)
theorem giveU {W w : World} {p x : Nat} {C D : List Ct} {R : List Th} (h : Both W w p x C D R) (n : Int) :
    Calls Try.prog 13 #[.pointer (some ⟨p, 0, none⟩), .int .i64 n] w (GvP W p x (C.eraseIdx (pickOf C.length n)) D R (gvR C n)) := by
  unfold gvR
  by_cases h0 : 0 < C.length
  · rw [dif_pos h0]
    exact give_b h n _ (pickOf_lt h0 n) rfl
  · rw [dif_neg h0]
    obtain rfl : C = [] := List.length_eq_zero_iff.1 (by omega)
    refine (giveno_b h n).mono ?_
    rintro e w' ⟨rfl, hB⟩
    exact ⟨none, 0, rfl, by simp, hB.nil⟩
theorem rgiveU {W w : World} {p x : Nat} {C D : List Ct} {R : List Th} (h : Both W w p x C D R) (n : Int) :
    Calls Try.prog 30 #[.pointer (some ⟨x, 0, none⟩), .int .i64 n] w (GvP W p x C (D.eraseIdx (pickOf D.length n)) R (gvR D n)) := by
  unfold gvR
  by_cases h0 : 0 < D.length
  · rw [dif_pos h0]
    exact rgive_b h n _ (pickOf_lt h0 n) rfl
  · rw [dif_neg h0]
    obtain rfl : D = [] := List.length_eq_zero_iff.1 (by omega)
    refine (rgiveno_b h n).mono ?_
    rintro e w' ⟨rfl, hB⟩
    exact ⟨none, 0, rfl, by simp, hB.nil⟩
end Go.Proofs.Ytcboflabjdiadaa
