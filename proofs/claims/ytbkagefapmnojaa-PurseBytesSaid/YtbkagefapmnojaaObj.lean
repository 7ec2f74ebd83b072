/- A Writer and a Reader as things that stay apart. -/
import Derived.Test.YtbkagefapmnojaaThs
import Derived.Test.YtbkagefapmnojaaKnown
import Derived.Test.YtbkagefapmnojaaRdBytes
namespace Go.Proofs.Ytbkagefapmnojaa
open Go.RowKit Go.Joins

def thWr (p base : Nat) (l : List UInt8) (o : Option Nat) : Th where
  T w := WrAt w p base l o
  F := Foot p o
  stay h k hS := h.keeps k (hS _ (.inl rfl)) (fun g hg => hS g (.inr hg))
  lt h hx := by
    rcases hx with rfl | hx
    · exact h.lt
    · exact (h.own_lt _ hx).1
theorem RdAt.stay {w w' : World} {p g : Nat} {rest : List UInt8} {bad : Bool} {S : Nat → Prop} (h : RdAt w p g rest bad) (k : Keeps w w' S) (hp : ¬ S p) (hg : 0 < rest.length → ¬ S g) : RdAt w' p g rest bad := by
  obtain ⟨ao, cap, h1, h2, h3, h4, h5, h6⟩ := h
  refine ⟨ao, cap, (k.block p (lt_of_block h1) hp).trans h1, h2, h3, h4, h5, fun hl => ?_⟩
  obtain ⟨off, e, hlt, hr⟩ := h6 hl
  exact ⟨off, e, Nat.lt_of_lt_of_le hlt k.size, hr.keeps hlt k (hg hl)⟩
theorem RdAt.glt {w : World} {p g : Nat} {rest : List UInt8} {bad : Bool} (h : RdAt w p g rest bad) (hl : 0 < rest.length) : g < w.heap.size := by
  obtain ⟨ao, cap, -, -, -, -, -, h6⟩ := h
  obtain ⟨off, e, hlt, -⟩ := h6 hl
  exact hlt
def thRd (p g : Nat) (rest : List UInt8) (bad : Bool) : Th where
  T w := RdAt w p g rest bad
  F x := x = p ∨ (x = g ∧ 0 < rest.length)
  stay h k hS := h.stay k (hS _ (.inl rfl)) (fun hl => hS _ (.inr ⟨rfl, hl⟩))
  lt h hx := by
    rcases hx with rfl | ⟨rfl, hx⟩
    · exact h.lt
    · exact h.glt hx
theorem St.wrote {W w w' : World} {L : List Th} {p base : Nat} {l full : List UInt8} {o : Option Nat} (h : St W w (thWr p base l o :: L)) (hi : WInv w w' p base o full []) : ∃ o', St W w' (thWr p base full o' :: L) := by
  obtain ⟨o', h1, h2, h3⟩ := hi.done
  refine ⟨o', h.step h2 (thWr p base full o') h1 (fun x hx => ?_)⟩
  rcases hx with hx | hx
  · exact .inl (.inl hx)
  · rcases h3 x hx with h4 | h4
    · exact .inl (.inr h4)
    · exact .inr h4
theorem St.newWr {W w : World} {L : List Th} (h : St W w L) (n : Nat) (hn : n = w.heap.size) (base : Nat) : St W (w.alloc (.cells #[.slice none 0 0] 53)) (thWr n base [] none :: L) :=
  h.new (below_alloc _ _) _ (wr_new w base n hn) (fun x hx => by
    rcases hx with hx | hx
    · omega
    · cases hx)
theorem St.read {W w w' : World} {L : List Th} {p g : Nat} {rest rest' : List UInt8} {bad bad' : Bool} (h : St W w (thRd p g rest bad :: L)) (hr : RdAt w' p g rest' bad') (k : Keeps w w' (fun x => x = p)) (hl : rest'.length ≤ rest.length) : St W w' (thRd p g rest' bad' :: L) :=
  h.step (k.weak (fun _ _ h => .inl h)) _ hr (fun x hx => by
    rcases hx with hx | ⟨hx, h1⟩
    · exact .inl (.inl hx)
    · exact .inl (.inr ⟨hx, by omega⟩))
theorem St.readOwn {W w w' : World} {L : List Th} {p g : Nat} {rest rest' x : List UInt8} {bad bad' : Bool} {ao : Option Addr} {cap : Nat} (h : St W w (thRd p g rest bad :: L)) (hr : RdAt w' p g rest' bad') (k : Keeps w w' (fun x => x = p)) (hl : rest'.length ≤ rest.length) (ho : OwnB w' w.heap.size ao cap x) : St W w' (thOwn w.heap.size ao cap x :: thRd p g rest' bad' :: L) := by
  have h2 := h.read hr k hl
  refine ⟨h2.b, ho, fun y hy => ?_, fun u hu y hy huy => ?_, h2.t⟩
  · obtain ⟨a, rfl, rfl⟩ := hy
    exact Nat.le_trans h.b.size (own_lt ho a.block rfl).2
  · have hwy : w.heap.size ≤ y := by
      obtain ⟨a, rfl, rfl⟩ := hy
      exact (own_lt ho a.block rfl).2
    rcases List.mem_cons.1 hu with e | e
    · subst e
      have : (thRd p g rest bad).F y := by
        rcases huy with e | ⟨e, h1⟩
        · exact .inl e
        · exact .inr ⟨e, by omega⟩
      have := (h.t.lts _ (by simp) y this).1
      omega
    · have := (h.t.lts u (by simp [e]) y huy).1
      omega
theorem St.newRd {W w w' : World} {L : List Th} {p g : Nat} {rest : List UInt8} (h : St W w L) (hr : RdAt w' p g rest false) (hb : Below w.heap.size w w') (hp : w.heap.size ≤ p) (hg : w.heap.size ≤ g) : St W w' (thRd p g rest false :: L) :=
  h.new hb _ hr (fun x hx => by
    rcases hx with hx | ⟨hx, -⟩ <;> omega)
end Go.Proofs.Ytbkagefapmnojaa
