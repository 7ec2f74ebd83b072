/- Contracts of the Writer's Raw, Bytes and Out. -/
import Derived.Test.YtglidhbkglfkeaaNums
namespace Go.Proofs.Ytglidhbkglfkeaa
open Go.RowKit

theorem WrAt.open {w : World} {p base : Nat} {l : List UInt8} {o : Option Nat} (h : WrAt w p base l o) : ∃ ao cap, w.heap[p]? = some (.cells #[.slice ao l.length cap] 54 (0, 0)) ∧ OwnB w base ao cap l ∧ o = (Value.slice ao l.length cap).ownBlock ∧ (Value.slice ao l.length cap).ownBlock ≠ some p := by
  obtain ⟨ao, cap, h1, h2, h3, h4⟩ := h
  exact ⟨ao, cap, h1, h2, h3, h3 ▸ h4⟩

set_option maxHeartbeats 4000000 in
theorem raw_any (p base : Nat) (l : List UInt8) (o : Option Nat) (bo : Option Addr) (cb : Nat) (bs : List UInt8) (w : World) (hw : WrAt w p base l o) (h0 : bo = none → bs.length = 0 ∧ cb = 0) (hb : BAt w bo bs) (hbase : base ≤ w.heap.size) (hm : l.length + bs.length ≤ 140737488351232) :
    Calls Try.prog 46 #[.pointer (some ⟨p, 0, none⟩), .slice bo bs.length cb] w fun e w' => e = .returned (.tuple #[]) ∧ WInv w w' p base o (l ++ bs) [] := by
  obtain ⟨ao, cap, hheap, hown, ho1, hne⟩ := hw.open
  have hcell := cell_of_one hheap
  have hfree := free_of_one hheap
  have Hheap := Lib.hid hheap
  have Hown := Lib.hid hown
  have Ho1 := Lib.hid ho1
  have Hne := Lib.hid hne
  have Hb := Lib.hid hb
  have H0 := Lib.hid h0
  clear hheap hown ho1 hne hw hb h0
  obtain ⟨i0, hi, hz0, hz1, hz2⟩ := info_parts byteInfo
  go_enter Try.func46, Try.ntmps46
  go_wp2_with (at_builtin; go_must (refine wpList_append_foot _ rfl (.tmp 10) (.tmp 11) 27 rfl base 5 i0 (.int .u8 0) 1 1 Try.underlying27 hi hz0 hz1 hz2 rfl (by decide) ao l.length cap (bytV l) rfl Hown.out bo bs.length cb (bytV bs) rfl H0.out (by rw [bytV_length, Nat.mul_one]) Hb.out.cells (bytV_one bs) (by unfold maxLen; omega) (by omega) hbase ?_))
  intro co c' w1 hown1 hgrow1 hco1
  have hstep := WInv.step (full := l ++ bs) (o := o) (news := bs) (rest := []) Hheap.out Hne.out (by simp) (Keeps.refl w _) (by rw [← Ho1.out]; exact fun g hg => .inl hg) (Keeps.refl w _) hown1 hgrow1 hco1
  obtain ⟨hinv, hc1, hf1⟩ := hstep
  have Hinv := Lib.hid hinv
  clear hown1 hgrow1 hco1 hinv hcell hfree
  go_wp2_with fail
  go_end0
  exact ⟨rfl, Hinv.out⟩

theorem out_any (p base : Nat) (l : List UInt8) (o : Option Nat) (w : World) (hw : WrAt w p base l o) (hm : l.length ≤ 140737488351232) :
    Calls Try.prog 23 #[.pointer (some ⟨p, 0, none⟩)] w (FreshB w l) := by
  obtain ⟨ao, cap, hheap, hown, ho1, hne⟩ := hw.open
  have hcell := cell_of_one hheap
  have Hown := Lib.hid hown
  clear hheap hown ho1 hne hw
  go_enter Try.func23, Try.ntmps23
  go_wp2_with fail
  refine (clone_any ao cap l _ Hown.out.none Hown.out.at hm).mono ?_
  rintro e w1 ⟨bo, c, rfl, ho, hb⟩
  go_wp2_with fail
  go_ret
  exact ⟨bo, c, rfl, ho, hb⟩
end Go.Proofs.Ytglidhbkglfkeaa
