/- Contracts of the Writer's Raw, Bytes and Out. -/
import Derived.Test.YtbkagefapmnojaaNums
namespace Go.Proofs.Ytbkagefapmnojaa
open Go.RowKit

theorem WrAt.open {w : World} {p base : Nat} {l : List UInt8} {o : Option Nat} (h : WrAt w p base l o) : ∃ ao cap, w.heap[p]? = some (.cells #[.slice ao l.length cap] 53 (0, 0)) ∧ OwnB w base ao cap l ∧ o = (Value.slice ao l.length cap).ownBlock ∧ (Value.slice ao l.length cap).ownBlock ≠ some p := by
  obtain ⟨ao, cap, h1, h2, h3, h4⟩ := h
  exact ⟨ao, cap, h1, h2, h3, h3 ▸ h4⟩

theorem out_any (p base : Nat) (l : List UInt8) (o : Option Nat) (w : World) (hw : WrAt w p base l o) (hm : l.length ≤ 140737488351232) :
    Calls Try.prog 33 #[.pointer (some ⟨p, 0, none⟩)] w (FreshB w l) := by
  obtain ⟨ao, cap, hheap, hown, ho1, hne⟩ := hw.open
  have hcell := cell_of_one hheap
  have Hown := Lib.hid hown
  clear hheap hown ho1 hne hw
  go_enter Try.func33, Try.ntmps33
  go_wp2_with fail
  refine (clone_any ao cap l _ Hown.out.none Hown.out.at hm).mono ?_
  rintro e w1 ⟨bo, c, rfl, ho, hb⟩
  go_wp2_with fail
  go_ret
  exact ⟨bo, c, rfl, ho, hb⟩
end Go.Proofs.Ytbkagefapmnojaa
