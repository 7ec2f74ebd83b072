/- Bytes that come: contracts of piece.Begin, Take, Whole, Bytes, and of the document's. -/
import Derived.Test.YtclbplodbmldpaaPcOut
import Derived.Test.YtclbplodbmldpaaThs
namespace Go.Proofs.Ytclbplodbmldpaa
open Go.RowKit

/-- An In: the block p holds a slice that the call made (o: its block) and a size. -/
def InAt (w : World) (p base : Nat) (l : List UInt8) (size : Int) (o : Option Nat) : Prop := ∃ ao cap, w.heap[p]? = some (.cells #[.slice ao l.length cap, .int .i64 size] 57 (0, 0)) ∧ OwnB w base ao cap l ∧ o = (Value.slice ao l.length cap).ownBlock ∧ (Value.slice ao l.length cap).ownBlock ≠ some p
def RInAt (w : World) (p base : Nat) (l : List UInt8) (size : Int) (o : Option Nat) : Prop := ∃ ao cap, w.heap[p]? = some (.cells #[.int .i64 size, .slice ao l.length cap] 51 (0, 0)) ∧ OwnB w base ao cap l ∧ o = (Value.slice ao l.length cap).ownBlock ∧ (Value.slice ao l.length cap).ownBlock ≠ some p
def Foot (p : Nat) (o : Option Nat) : Nat → Prop := fun x => x = p ∨ o = some x
theorem InAt.lt {w : World} {p base : Nat} {l : List UInt8} {size : Int} {o : Option Nat} (h : InAt w p base l size o) : p < w.heap.size ∧ ∀ g, o = some g → g < w.heap.size ∧ base ≤ g := by
  obtain ⟨ao, cap, h1, h2, h3, -⟩ := h
  exact ⟨lt_of_block h1, fun g hg => own_lt h2 g (by rw [← h3]; exact hg)⟩
theorem InAt.keeps {w w' : World} {p base : Nat} {l : List UInt8} {size : Int} {o : Option Nat} {S : Nat → Prop} (h : InAt w p base l size o) (k : Keeps w w' S) (hp : ¬ S p) (ho : ∀ g, o = some g → ¬ S g) : InAt w' p base l size o := by
  obtain ⟨ao, cap, h1, h2, h3, h4⟩ := h
  exact ⟨ao, cap, (k.block p (lt_of_block h1) hp).trans h1, own_keeps h2 k (by rw [← h3]; exact ho), h3, h4⟩
theorem InAt.grow {w w' : World} {p base : Nat} {l : List UInt8} {size : Int} {o : Option Nat} (h : InAt w p base l size o) (b : Below w.heap.size w w') : InAt w' p base l size o := h.keeps (keeps_same b (fun _ => False)) (fun h => h) (fun _ _ h => h)
theorem RInAt.lt {w : World} {p base : Nat} {l : List UInt8} {size : Int} {o : Option Nat} (h : RInAt w p base l size o) : p < w.heap.size ∧ ∀ g, o = some g → g < w.heap.size ∧ base ≤ g := by
  obtain ⟨ao, cap, h1, h2, h3, -⟩ := h
  exact ⟨lt_of_block h1, fun g hg => own_lt h2 g (by rw [← h3]; exact hg)⟩
theorem RInAt.keeps {w w' : World} {p base : Nat} {l : List UInt8} {size : Int} {o : Option Nat} {S : Nat → Prop} (h : RInAt w p base l size o) (k : Keeps w w' S) (hp : ¬ S p) (ho : ∀ g, o = some g → ¬ S g) : RInAt w' p base l size o := by
  obtain ⟨ao, cap, h1, h2, h3, h4⟩ := h
  exact ⟨ao, cap, (k.block p (lt_of_block h1) hp).trans h1, own_keeps h2 k (by rw [← h3]; exact ho), h3, h4⟩
theorem RInAt.grow {w w' : World} {p base : Nat} {l : List UInt8} {size : Int} {o : Option Nat} (h : RInAt w p base l size o) (b : Below w.heap.size w w') : RInAt w' p base l size o := h.keeps (keeps_same b (fun _ => False)) (fun h => h) (fun _ _ h => h)
def takeOf (l : List UInt8) (size off : Int) (bs : List UInt8) : List UInt8 := if off = l.length ∧ (bs.length : Int) ≤ size - l.length then l ++ bs else l
theorem take_no {l bs : List UInt8} {size off : Int} (h : ¬ (off = l.length ∧ (bs.length : Int) ≤ size - l.length)) : takeOf l size off bs = l := if_neg h
theorem take_yes {l bs : List UInt8} {size off : Int} (h : off = l.length) (h2 : (bs.length : Int) ≤ size - l.length) : takeOf l size off bs = l ++ bs := if_pos ⟨h, h2⟩
theorem ownB_append {w : World} {base : Nat} {co : Option Addr} {c' : Nat} {l bs : List UInt8} (h : w.ownsRow base 5 1 (.slice co (l.length + bs.length) c') (l.length + bs.length) (bytV l ++ bytV bs)) : OwnB w base co c' (l ++ bs) := by
  unfold OwnB; rw [← bytV_append, List.length_append]; exact h
theorem own_set {w : World} {base : Nat} {ao : Option Addr} {cap : Nat} {l : List UInt8} (h : OwnB w base ao cap l) (a : Addr) (v : Value) (ha : (Value.slice ao l.length cap).ownBlock ≠ some a.block) : OwnB (w.setCell a v) base ao cap l :=
  ownsRow_setCell_other h ha v

set_option maxHeartbeats 4000000 in
theorem inTake_any (p base : Nat) (l : List UInt8) (o : Option Nat) (size off : Int) (bo : Option Addr) (cb : Nat) (bs : List UInt8) (w : World) (hw : InAt w p base l size o) (h0 : bo = none → bs.length = 0 ∧ cb = 0) (hb : BAt w bo bs) (hbase : base ≤ w.heap.size) (hm : l.length + bs.length ≤ 140737488351232) (hs0 : 0 ≤ size) (hs1 : size ≤ 524288) :
    Calls Try.prog 21 #[.pointer (some ⟨p, 0, none⟩), .int .i64 off, .slice bo bs.length cb] w fun e w' => e = .returned (.int .i64 (takeOf l size off bs).length) ∧ (∃ o', InAt w' p base (takeOf l size off bs) size o' ∧ ∀ g, o' = some g → o = some g ∨ w.heap.size ≤ g) ∧ Keeps w w' (Foot p o) := by
  have Hw := Lib.hid hw
  obtain ⟨ao, cap, hheap, hown, ho1, hne⟩ := hw
  obtain ⟨c0, c1, f0, f1⟩ := cell_of_two hheap
  have Hheap := Lib.hid hheap
  have Hown := Lib.hid hown
  have Ho1 := Lib.hid ho1
  have Hne := Lib.hid hne
  have Hb := Lib.hid hb
  have H0 := Lib.hid h0
  clear hheap hown ho1 hne hb h0
  obtain ⟨i0, hi, hz0, hz1, hz2⟩ := info_parts byteInfo
  by_cases h1 : off = l.length
  · by_cases h2 : (bs.length : Int) ≤ size - l.length
    · rw [take_yes h1 h2]
      subst h1
      go_enter Try.func21, Try.ntmps21
      go_wp2_with (at_builtin; go_must (refine wpList_append_foot _ rfl (.tmp 31) (.tmp 32) 22 rfl base 5 i0 (.int .u8 0) 1 1 Try.underlying22 hi hz0 hz1 hz2 rfl (by decide) ao l.length cap (bytV l) rfl Hown.out bo bs.length cb (bytV bs) rfl H0.out (by rw [bytV_length, Nat.mul_one]) Hb.out.cells (bytV_one bs) (by unfold maxLen; omega) (by omega) hbase ?_))
      intro co c' w1 hown1 hgrow1 hco1
      have hp1 : w1.heap[p]? = some (.cells #[.slice ao l.length cap, .int .i64 size] 57 (0, 0)) := (hgrow1.block p (lt_of_block Hheap.out) (fun h => Hne.out h.symm)).trans Hheap.out
      obtain ⟨d0, d1, e0, e1⟩ := cell_of_two hp1
      have hcne : (Value.slice co (l ++ bs).length c').ownBlock ≠ some p := by
        intro h
        cases co with
        | none => simp [Value.ownBlock] at h
        | some g =>
          simp only [Value.ownBlock, Option.some.injEq] at h
          rcases hco1 g rfl with h1 | h1
          · subst h1; exact Hne.out (by simp [Value.ownBlock, h])
          · have := lt_of_block Hheap.out; omega
      have hfin : InAt (w1.setCell ⟨p, 0, none⟩ (.slice co (l.length + bs.length) c')) p base (l ++ bs) size (Value.slice co (l ++ bs).length c').ownBlock ∧ (∀ g, (Value.slice co (l ++ bs).length c').ownBlock = some g → o = some g ∨ w.heap.size ≤ g) ∧ Keeps w (w1.setCell ⟨p, 0, none⟩ (.slice co (l.length + bs.length) c')) (Foot p o) := by
        refine ⟨⟨co, c', by rw [List.length_append]; exact set_two_fst hp1, own_set (ownB_append hown1) _ _ hcne, rfl, hcne⟩, fun g hg => ?_, (Keeps.grown hgrow1).trans (Keeps.set _ _ _) (fun i h => .inr (by rw [Ho1.out]; exact h.symm)) (fun i _ h => .inl h)⟩
        cases co with
        | none => simp [Value.ownBlock] at hg
        | some a =>
          simp only [Value.ownBlock, Option.some.injEq] at hg
          rcases hco1 a rfl with h | h
          · left; rw [Ho1.out, h]; simp [Value.ownBlock, hg]
          · right; omega
      have Hfin := Lib.hid hfin
      clear hown1 hgrow1 hco1 hp1 hcne hfin c0 c1 f0 f1
      go_wp2_with fail
      go_ret
      exact ⟨by rw [List.length_append]; rfl, ⟨_, Hfin.out.1, Hfin.out.2.1⟩, Hfin.out.2.2⟩
    · rw [take_no (fun h => h2 h.2)]
      subst h1
      go_enter Try.func21, Try.ntmps21
      go_wp2_with fail
      all_goals first | (exfalso; omega) | skip
      go_ret
      exact ⟨rfl, ⟨o, Hw.out, fun g h => .inl h⟩, Keeps.refl _ _⟩
  · rw [take_no (fun h => h1 h.1)]
    go_enter Try.func21, Try.ntmps21
    go_wp2_with fail
    all_goals first | (exfalso; omega) | skip
    go_ret
    exact ⟨rfl, ⟨o, Hw.out, fun g h => .inl h⟩, Keeps.refl _ _⟩
theorem inWhole_any (p base : Nat) (l : List UInt8) (o : Option Nat) (size : Int) (w : World) (hw : InAt w p base l size o) :
    Calls Try.prog 25 #[.pointer (some ⟨p, 0, none⟩)] w fun e w' => e = .returned (.bool ((l.length : Int) == size)) ∧ Below w.heap.size w w' := by
  obtain ⟨ao, cap, hh, -⟩ := hw
  obtain ⟨c0, c1, f0, f1⟩ := cell_of_two hh
  clear hh
  go_enter Try.func25, Try.ntmps25
  go_wp2_with fail
  go_quiet (fail)
  go_wp2_with fail
  go_ret
  exact ⟨rfl, (by repeat (first | with_reducible exact Below.refl _ _ | with_reducible assumption | with_reducible refine Below.drew ?_ | with_reducible refine below_drawn ?_ | with_reducible refine Below.alloc ?_ (by first | omega | (simp; done) | (simp; omega) | (simp at *; omega)) _ | with_reducible refine Below.setCell ?_ (by first | omega | (simp; done) | (simp; omega) | (simp at *; omega)) _ | with_reducible refine Below.trans ?_ (Below.mono (by assumption) (by first | omega | (simp; done) | (simp; omega) | (simp at *; omega)))))⟩
theorem refInWhole_any (p base : Nat) (l : List UInt8) (o : Option Nat) (size : Int) (w : World) (hw : RInAt w p base l size o) :
    Calls Try.prog 26 #[.pointer (some ⟨p, 0, none⟩)] w fun e w' => e = .returned (.bool ((l.length : Int) == size)) ∧ Below w.heap.size w w' := by
  obtain ⟨ao, cap, hh, -⟩ := hw
  obtain ⟨c0, c1, f0, f1⟩ := cell_of_two hh
  clear hh
  go_enter Try.func26, Try.ntmps26
  go_wp2_with fail
  go_quiet (fail)
  go_wp2_with fail
  go_ret
  exact ⟨rfl, (by repeat (first | with_reducible exact Below.refl _ _ | with_reducible assumption | with_reducible refine Below.drew ?_ | with_reducible refine below_drawn ?_ | with_reducible refine Below.alloc ?_ (by first | omega | (simp; done) | (simp; omega) | (simp at *; omega)) _ | with_reducible refine Below.setCell ?_ (by first | omega | (simp; done) | (simp; omega) | (simp at *; omega)) _ | with_reducible refine Below.trans ?_ (Below.mono (by assumption) (by first | omega | (simp; done) | (simp; omega) | (simp at *; omega)))))⟩
theorem inBytes_any (p base : Nat) (l : List UInt8) (o : Option Nat) (size : Int) (w : World) (hw : InAt w p base l size o) (hm : l.length ≤ 140737488351232) :
    Calls Try.prog 24 #[.pointer (some ⟨p, 0, none⟩)] w (FreshB w l) := by
  obtain ⟨ao, cap, hheap, hown, -⟩ := hw
  obtain ⟨c0, c1, f0, f1⟩ := cell_of_two hheap
  have Hown := Lib.hid hown
  clear hheap hown
  go_enter Try.func24, Try.ntmps24
  go_wp2_with fail
  refine (clone_any ao cap l _ Hown.out.none Hown.out.at hm).mono ?_
  rintro e w1 ⟨bo, c, rfl, ho, hb⟩
  go_wp2_with fail
  go_ret
  exact ⟨bo, c, rfl, ho, hb⟩
theorem begin_yes (size : Int) (w : World) (h1 : 1 ≤ size) (h2 : size ≤ 524288) (base : Nat) :
    Calls Try.prog 19 #[.int .i64 size] w fun e w' => e = .returned (.tuple #[.pointer (some ⟨w.heap.size, 0, none⟩), .int .i64 0]) ∧ InAt w' w.heap.size base [] size none ∧ Below w.heap.size w w' := by
  go_enter Try.func19, Try.ntmps19
  go_wp2_with fail
  all_goals first | (exfalso; omega) | skip
  exact bodyPost_ret (v := .tuple #[.pointer (some ⟨w.heap.size, 0, none⟩), .int .i64 0]) (by simp only [results, Try.results19]; go_simp) rfl ⟨rfl, ⟨none, 0, heap_new _ _, ⟨rfl, .inl ⟨rfl, rfl⟩⟩, rfl, by simp [Value.ownBlock]⟩, (by repeat (first | with_reducible exact Below.refl _ _ | with_reducible assumption | with_reducible refine Below.drew ?_ | with_reducible refine below_drawn ?_ | with_reducible refine Below.alloc ?_ (by first | omega | (simp; done) | (simp; omega) | (simp at *; omega)) _ | with_reducible refine Below.setCell ?_ (by first | omega | (simp; done) | (simp; omega) | (simp at *; omega)) _ | with_reducible refine Below.trans ?_ (Below.mono (by assumption) (by first | omega | (simp; done) | (simp; omega) | (simp at *; omega)))))⟩
theorem refBegin_yes (size : Int) (w : World) (h1 : 1 ≤ size) (h2 : size ≤ 524288) (base : Nat) :
    Calls Try.prog 20 #[.int .i64 size] w fun e w' => e = .returned (.tuple #[.pointer (some ⟨w.heap.size, 0, none⟩), .int .i64 0]) ∧ RInAt w' w.heap.size base [] size none ∧ Below w.heap.size w w' := by
  go_enter Try.func20, Try.ntmps20
  go_wp2_with fail
  all_goals first | (exfalso; omega) | skip
  exact bodyPost_ret (v := .tuple #[.pointer (some ⟨w.heap.size, 0, none⟩), .int .i64 0]) (by simp only [results, Try.results20]; go_simp) rfl ⟨rfl, ⟨none, 0, heap_new _ _, ⟨rfl, .inl ⟨rfl, rfl⟩⟩, rfl, by simp [Value.ownBlock]⟩, (by repeat (first | with_reducible exact Below.refl _ _ | with_reducible assumption | with_reducible refine Below.drew ?_ | with_reducible refine below_drawn ?_ | with_reducible refine Below.alloc ?_ (by first | omega | (simp; done) | (simp; omega) | (simp at *; omega)) _ | with_reducible refine Below.setCell ?_ (by first | omega | (simp; done) | (simp; omega) | (simp at *; omega)) _ | with_reducible refine Below.trans ?_ (Below.mono (by assumption) (by first | omega | (simp; done) | (simp; omega) | (simp at *; omega)))))⟩
theorem begin_no (size : Int) (w : World) (h : size < 1 ∨ 524288 < size) :
    Calls Try.prog 19 #[.int .i64 size] w fun e w' => e = .returned (.tuple #[.pointer none, .int .i64 1]) ∧ Below w.heap.size w w' := by
  by_cases h1 : size < 1
  all_goals
    go_enter Try.func19, Try.ntmps19
    go_wp2_with fail
    all_goals first | (exfalso; omega) | skip
    exact bodyPost_ret (v := .tuple #[.pointer none, .int .i64 1]) (by simp only [results, Try.results19]; go_simp) rfl ⟨rfl, (by repeat (first | with_reducible exact Below.refl _ _ | with_reducible assumption | with_reducible refine Below.drew ?_ | with_reducible refine below_drawn ?_ | with_reducible refine Below.alloc ?_ (by first | omega | (simp; done) | (simp; omega) | (simp at *; omega)) _ | with_reducible refine Below.setCell ?_ (by first | omega | (simp; done) | (simp; omega) | (simp at *; omega)) _ | with_reducible refine Below.trans ?_ (Below.mono (by assumption) (by first | omega | (simp; done) | (simp; omega) | (simp at *; omega)))))⟩
theorem refBegin_no (size : Int) (w : World) (h : size < 1 ∨ 524288 < size) :
    Calls Try.prog 20 #[.int .i64 size] w fun e w' => e = .returned (.tuple #[.pointer none, .int .i64 1]) ∧ Below w.heap.size w w' := by
  by_cases h1 : size < 1
  all_goals
    go_enter Try.func20, Try.ntmps20
    go_wp2_with fail
    all_goals first | (exfalso; omega) | skip
    exact bodyPost_ret (v := .tuple #[.pointer none, .int .i64 1]) (by simp only [results, Try.results20]; go_simp) rfl ⟨rfl, (by repeat (first | with_reducible exact Below.refl _ _ | with_reducible assumption | with_reducible refine Below.drew ?_ | with_reducible refine below_drawn ?_ | with_reducible refine Below.alloc ?_ (by first | omega | (simp; done) | (simp; omega) | (simp at *; omega)) _ | with_reducible refine Below.setCell ?_ (by first | omega | (simp; done) | (simp; omega) | (simp at *; omega)) _ | with_reducible refine Below.trans ?_ (Below.mono (by assumption) (by first | omega | (simp; done) | (simp; omega) | (simp at *; omega)))))⟩
end Go.Proofs.Ytclbplodbmldpaa
