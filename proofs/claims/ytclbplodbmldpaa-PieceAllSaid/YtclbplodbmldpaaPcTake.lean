/- The document's Take. -/
import Derived.Test.YtclbplodbmldpaaPcIn
namespace Go.Proofs.Ytclbplodbmldpaa
open Go.RowKit

theorem keeps_drawn (w : World) (n : Nat) (S : Nat → Prop) : Keeps w (w.drewN n) S := ⟨rfl, rfl, rfl, Nat.le_refl _, fun _ _ _ => rfl⟩
set_option maxHeartbeats 4000000 in
theorem refTake_any (p base : Nat) (l : List UInt8) (o : Option Nat) (size off : Int) (bo : Option Addr) (cb : Nat) (bs : List UInt8) (w : World) (hw : RInAt w p base l size o) (h0 : bo = none → bs.length = 0 ∧ cb = 0) (hb : BAt w bo bs) (hbase : base ≤ w.heap.size) (hm : l.length + bs.length ≤ 140737488351232) (hs0 : 0 ≤ size) (hs1 : size ≤ 524288) :
    Calls Try.prog 22 #[.pointer (some ⟨p, 0, none⟩), .int .i64 off, .slice bo bs.length cb] w fun e w' => e = .returned (.int .i64 (takeOf l size off bs).length) ∧ (∃ o', RInAt w' p base (takeOf l size off bs) size o' ∧ ∀ g, o' = some g → o = some g ∨ w.heap.size ≤ g) ∧ Keeps w w' (Foot p o) := by
  have Hw := Lib.hid hw
  obtain ⟨ao, cap, hheap, hown, ho1, hne⟩ := hw
  obtain ⟨c0, c1, f0, f1⟩ := cell_of_two hheap
  have hlt := lt_of_block hheap
  have Hheap := Lib.hid hheap
  have Hown := Lib.hid hown
  have Ho1 := Lib.hid ho1
  have Hne := Lib.hid hne
  have Hb := Lib.hid hb
  have H0 := Lib.hid h0
  clear hheap hown ho1 hne hb h0
  obtain ⟨i0, hi, hz0, hz1, hz2⟩ := info_parts byteInfo
  by_cases h1 : off = l.length
  · by_cases h2 : (bs.length : Int) ≤ size - l.length
    · rw [take_yes h1 h2]
      subst h1
      go_enter Try.func22, Try.ntmps22
      go_wp2_with fail
      go_quiet (fail)
      obtain ⟨wa, hwa⟩ : ∃ wa, wa = w.drewN nq := ⟨_, rfl⟩
      rw [← hwa]
      have hwb : Below w.heap.size w wa := by rw [hwa]; exact below_drawn (Below.refl _ _)
      have hhs : wa.heap.size = w.heap.size := by rw [hwa]; rfl
      have g0 := (hwb.cell (p := ⟨p, 0, none⟩) hlt).trans c0
      have g1 := (hwb.cell (p := ⟨p, 1, none⟩) hlt).trans c1
      have Hwb := Lib.hid hwb
      clear hwa hwb
      go_wp2_with (at_builtin; go_must (refine wpList_append_any _ rfl (.tmp 30) (.tmp 34) 22 rfl w.heap.size 5 i0 (.int .u8 0) 1 1 Try.underlying22 hi hz0 hz1 hz2 rfl (by decide) _ 0 [] rfl (owns_emptyAt _ w.heap.size hhs.symm w.heap.size (Nat.le_refl _) 5 1) ao l.length cap (bytV l) rfl Hown.out.none (by rw [bytV_length, Nat.mul_one]) (Hown.out.at.below (Hwb.out.alloc (Nat.le_of_eq hhs.symm) _)).cells (bytV_one l) (by unfold maxLen; omega) (by omega) (by simp; omega) ?_))
      intro v w1 hown1 hgrow1
      have hb1 : Below w.heap.size w w1 := below_grown (Hwb.out.alloc (Nat.le_of_eq hhs.symm) _) (by simp; omega) hgrow1 (fun k hk => by simp [Value.ownBlock] at hk; omega)
      obtain ⟨xo, xc, hv, ho⟩ := owned_bytes (l := l) (by simpa using hown1) rfl
      have Ho := Lib.hid ho
      have Hb1 := Lib.hid hb1
      have hz1 := hb1.size
      clear hown1 hgrow1 ho hb1
      rw [hv]
      clear hv v
      go_wp2_with (at_builtin; go_must (refine wpList_append_foot _ rfl (.tmp 35) (.tmp 36) 22 rfl w.heap.size 5 i0 (.int .u8 0) 1 1 Try.underlying22 hi hz0 ‹i0.size = 1› hz2 rfl (by decide) xo l.length xc (bytV l) rfl Ho.out bo bs.length cb (bytV bs) rfl H0.out (by rw [bytV_length, Nat.mul_one]) (Hb.out.below Hb1.out).cells (bytV_one bs) (by unfold maxLen; omega) (by omega) hz1 ?_))
      intro co c' w2 hown2 hgrow2 hco2
      have hb2 : Below w.heap.size w w2 := below_grown Hb1.out hz1 hgrow2 (fun j hj => own_block Ho.out hj)
      have hp2 : w2.heap[p]? = some (.cells #[.int .i64 size, .slice ao l.length cap] 51 (0, 0)) := (hb2.block p hlt).trans Hheap.out
      obtain ⟨d0, d1, e0, e1⟩ := cell_of_two hp2
      have ho2 : OwnB w2 w.heap.size co c' (l ++ bs) := ownB_append hown2
      have hcg : ∀ g, (Value.slice co (l ++ bs).length c').ownBlock = some g → w.heap.size ≤ g := fun g hg => (own_lt ho2 g hg).2
      have hcne : (Value.slice co (l ++ bs).length c').ownBlock ≠ some p := fun h => by have := hcg p h; omega
      have hfin : RInAt (w2.setCell ⟨p, 1, none⟩ (.slice co (l.length + bs.length) c')) p base (l ++ bs) size (Value.slice co (l ++ bs).length c').ownBlock ∧ (∀ g, (Value.slice co (l ++ bs).length c').ownBlock = some g → o = some g ∨ w.heap.size ≤ g) ∧ Keeps w (w2.setCell ⟨p, 1, none⟩ (.slice co (l.length + bs.length) c')) (Foot p o) :=
        ⟨⟨co, c', by rw [List.length_append]; exact set_two_snd hp2, own_set (own_weak ho2 hbase) _ _ hcne, rfl, hcne⟩, fun g hg => .inr (hcg g hg), (Keeps.of_grown hb2 (Nat.le_refl _) (fun _ => False)).trans (Keeps.set _ _ _) (fun i h => h.elim) (fun i _ h => .inl h)⟩
      have Hfin := Lib.hid hfin
      clear hown2 hgrow2 hco2 hp2 hcne hfin hcg ho2 hb2 c0 c1 f0 f1
      go_wp2_with fail
      go_ret
      exact ⟨by rw [List.length_append]; rfl, ⟨_, Hfin.out.1, Hfin.out.2.1⟩, Hfin.out.2.2⟩
    · rw [take_no (fun h => h2 h.2)]
      subst h1
      go_enter Try.func22, Try.ntmps22
      go_wp2_with fail
      go_quiet (fail)
      go_wp2_with fail
      go_ret
      exact ⟨rfl, ⟨o, Hw.out, fun g h => .inl h⟩, keeps_drawn _ _ _⟩
  · rw [take_no (fun h => h1 h.1)]
    have hoff : (off == (l.length : Int)) = false := by rw [beq_eq_false_iff_ne]; exact h1
    go_enter Try.func22, Try.ntmps22
    go_wp2_with fail
    go_quiet (fail)
    go_wp2_with fail
    go_ret
    exact ⟨rfl, ⟨o, Hw.out, fun g h => .inl h⟩, keeps_drawn _ _ _⟩
end Go.Proofs.Ytclbplodbmldpaa
