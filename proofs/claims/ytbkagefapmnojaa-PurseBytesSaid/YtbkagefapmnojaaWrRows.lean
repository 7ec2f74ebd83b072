/- The contract of the Writer's Bytes. -/
import Derived.Test.YtbkagefapmnojaaRaw
import Derived.Test.YtbkagefapmnojaaRws
namespace Go.Proofs.Ytbkagefapmnojaa
open Go.RowKit

def encRow (l : List UInt8) : List UInt8 := encN l.length ++ l
def encRows (L : List RowR) : List UInt8 := L.flatMap fun r => encRow r.bs
theorem encRows_cons (r : RowR) (L : List RowR) : encRows (r :: L) = encRow r.bs ++ encRows L := rfl
theorem encRows_length (L : List RowR) : (encRows L).length ≤ 10 * L.length + (flatR L).length := by
  induction L with
  | nil => simp [encRows, flatR]
  | cons r t ih =>
    have := (encN_length r.bs.length).1
    rw [encRows_cons]
    simp only [flatR, List.flatMap_cons, List.length_append, List.length_cons, encRow] at *
    omega
theorem WrAt.keeps {w w' : World} {p base : Nat} {l : List UInt8} {o : Option Nat} {S : Nat → Prop} (h : WrAt w p base l o) (k : Keeps w w' S) (hp : ¬ S p) (ho : ∀ g, o = some g → ¬ S g) : WrAt w' p base l o := by
  obtain ⟨ao, cap, h1, h2, h3, h4⟩ := h
  refine ⟨ao, cap, (k.block p (lt_of_block h1) hp).trans h1, ?_, h3, h4⟩
  refine ⟨h2.1, ?_⟩
  rcases h2.2 with h2 | ⟨g, c, cur, hv, hg, hh, r⟩
  · exact .inl h2
  · exact .inr ⟨g, c, cur, hv, hg, (k.block g (Array.getElem?_eq_some_iff.1 hh).1 (ho g (by rw [h3, hv]; rfl))).trans hh, r⟩
theorem WrAt.grow {w w' : World} {p base : Nat} {l : List UInt8} {o : Option Nat} (h : WrAt w p base l o) (b : Below w.heap.size w w') : WrAt w' p base l o := h.keeps (keeps_same b (fun _ => False)) (fun h => h) (fun _ _ h => h)
/-- One method behind another. -/
theorem WInv.then {w wr wx w' : World} {p base : Nat} {o o' : Option Nat} {full cur x rest : List UInt8} (hw : WrAt wr p base cur o') (hk : Keeps w wr (Foot p o)) (hfr : ∀ g, o' = some g → o = some g ∨ w.heap.size ≤ g) (hx : Below wr.heap.size wr wx) (h : WInv wx w' p base o' (cur ++ x) []) (hfull : cur ++ (x ++ rest) = full) : WInv w w' p base o full rest := by
  obtain ⟨c2, o2, h1, h2, h3, h4⟩ := h
  have hs := hk.size
  have hs2 := hx.size
  rw [List.append_nil] at h2
  have hp := hw.lt
  refine ⟨c2, o2, h1, by rw [h2, List.append_assoc]; exact hfull, ?_, fun g hg => ?_⟩
  · refine hk.trans ((keeps_same hx (Foot p o')).trans h3 (fun _ s => s) (fun _ _ s => s)) (fun _ s => s) (fun i hi s => ?_)
    rcases s with s | s
    · exact .inl s
    · rcases hfr i s with h | h
      · exact .inr h
      · omega
  · rcases h4 g hg with h | h
    · exact hfr g h
    · right; omega

end Go.Proofs.Ytbkagefapmnojaa
