/- The Writer: what it is in memory; contracts of its methods. -/
import Derived.Test.YtbkagefapmnojaaBw
import Derived.Test.YtbkagefapmnojaaNum
import Derived.Test.YtbkagefapmnojaaFoot
import Derived.Lib.MinMax
namespace Go.Proofs.Ytbkagefapmnojaa
open Go.RowKit

/-- A Writer: the block p holds one slice, which the call made; o: the slice's block. -/
def WrAt (w : World) (p base : Nat) (l : List UInt8) (o : Option Nat) : Prop := ∃ ao cap, w.heap[p]? = some (.cells #[.slice ao l.length cap] 53 (0, 0)) ∧ OwnB w base ao cap l ∧ o = (Value.slice ao l.length cap).ownBlock ∧ o ≠ some p
/-- The blocks that a Writer's method may write. -/
def Foot (p : Nat) (o : Option Nat) : Nat → Prop := fun x => x = p ∨ o = some x
/-- Under way: what is laid and what is still to be laid is 'full'; since w only the Writer was written. -/
def WInv (w wr : World) (p base : Nat) (o : Option Nat) (full rest : List UInt8) : Prop := ∃ cur o', WrAt wr p base cur o' ∧ cur ++ rest = full ∧ Keeps w wr (Foot p o) ∧ (∀ g, o' = some g → o = some g ∨ w.heap.size ≤ g)
theorem own_of {ao : Option Addr} {n c : Nat} : (Value.slice ao n c).ownBlock = ao.map (·.block) := by cases ao <;> rfl
theorem WrAt.lt {w : World} {p base : Nat} {l : List UInt8} {o : Option Nat} (h : WrAt w p base l o) : p < w.heap.size := by
  obtain ⟨ao, cap, h1, -⟩ := h
  exact lt_of_block h1
theorem WrAt.own_lt {w : World} {p base : Nat} {l : List UInt8} {o : Option Nat} (h : WrAt w p base l o) : ∀ g, o = some g → g < w.heap.size ∧ base ≤ g := by
  obtain ⟨ao, cap, -, h2, h3, -⟩ := h
  intro g hg
  rw [h3] at hg
  rcases h2.2 with ⟨hv, -⟩ | ⟨g', c, cur, hv, hb, hh, -⟩
  · rw [hv] at hg; simp [Value.ownBlock] at hg
  · rw [hv] at hg
    simp only [Value.ownBlock, Option.some.injEq] at hg
    subst hg
    exact ⟨lt_of_block hh, hb⟩
theorem WInv.start {w : World} {p base : Nat} {o : Option Nat} {l rest : List UInt8} (h : WrAt w p base l o) : WInv w w p base o (l ++ rest) rest := ⟨l, o, h, rfl, Keeps.refl _ _, fun _ hg => .inl hg⟩
theorem WInv.more {w wr : World} {p base : Nat} {o : Option Nat} {full rest more : List UInt8} (h : WInv w wr p base o full rest) : WInv w wr p base o (full ++ more) (rest ++ more) := by
  obtain ⟨cur, o', h1, h2, h3⟩ := h
  exact ⟨cur, o', h1, by rw [← List.append_assoc, h2], h3⟩
/-- One append and the store behind it. -/
theorem WInv.step {w wr wx w1 : World} {p base : Nat} {o : Option Nat} {cur news rest full : List UInt8} {ao co : Option Addr} {cap c' : Nat}
    (hp : wr.heap[p]? = some (.cells #[.slice ao cur.length cap] 53 (0, 0))) (hne : (Value.slice ao cur.length cap).ownBlock ≠ some p) (hfull : cur ++ (news ++ rest) = full) (hk : Keeps w wr (Foot p o))
    (ho : ∀ g, (Value.slice ao cur.length cap).ownBlock = some g → o = some g ∨ w.heap.size ≤ g) (hx : Keeps wr wx (fun _ => False))
    (hown : w1.ownsRow base 5 1 (.slice co (cur.length + news.length) c') (cur.length + news.length) (bytV cur ++ bytV news)) (hg : wx.grownBy w1 (Value.slice ao cur.length cap).ownBlock)
    (hco : ∀ g, co = some g → ao = some g ∨ wx.heap.size ≤ g.block) :
    WInv w (w1.setCell ⟨p, 0, none⟩ (.slice co (cur.length + news.length) c')) p base o full rest ∧ w1.cell? ⟨p, 0, none⟩ = some (.slice ao cur.length cap) ∧ w1.frozen? ⟨p, 0, none⟩ = false := by
  have hlt := lt_of_block hp
  have hpx : wx.heap[p]? = some (.cells #[.slice ao cur.length cap] 53 (0, 0)) := (hx.block p hlt (fun h => h)).trans hp
  have hp1 : w1.heap[p]? = some (.cells #[.slice ao cur.length cap] 53 (0, 0)) := (hg.block p (lt_of_block hpx) (fun h => hne h.symm)).trans hpx
  refine ⟨?_, cell_of_one hp1, free_of_one hp1⟩
  have hcne : (Value.slice co (cur.length + news.length) c').ownBlock ≠ some p := by
    intro h
    cases co with
    | none => simp [Value.ownBlock] at h
    | some g =>
      simp only [Value.ownBlock, Option.some.injEq] at h
      rcases hco g rfl with h1 | h1
      · subst h1; exact hne (by simp [Value.ownBlock, h])
      · have := hx.size; omega
  have hs := hx.size
  have hs1 := hg.size
  refine ⟨cur ++ news, (Value.slice co (cur.length + news.length) c').ownBlock, ⟨co, c', ?_, ?_, ?_, hcne⟩, by rw [List.append_assoc]; exact hfull, ?_, ?_⟩
  · rw [List.length_append]; exact one_setCell hp1
  · unfold OwnB
    rw [List.length_append, ← bytV_append]
    exact ownsRow_setCell_other hown hcne _
  · rw [List.length_append]
  · refine ⟨hg.os.trans (hx.os.trans hk.os), hg.tape.trans (hx.tape.trans hk.tape), hg.output.trans (hx.output.trans hk.output), by have := hk.size; simp [World.setCell]; omega, fun k hk1 hn => ?_⟩
    have hk2 := hk.size
    rw [Below.heap_setCell _ _ _ _ (fun e => hn (.inl e))]
    rw [hg.block k (by omega) (fun e => ?_), hx.block k (by omega) (fun h => h), hk.block k hk1 hn]
    rcases ho k e.symm with h | h
    · exact hn (.inr h)
    · omega
  · intro g hgg
    cases co with
    | none => simp [Value.ownBlock] at hgg
    | some a =>
      simp only [Value.ownBlock, Option.some.injEq] at hgg
      rcases hco a rfl with h | h
      · exact ho g (by rw [h]; simp [Value.ownBlock, hgg])
      · right; have := hk.size; omega
end Go.Proofs.Ytbkagefapmnojaa
