/- The document's Reader: contracts of Bad, Raw, Whole. -/
import Derived.Test.YtbkagefapmnojaaRdBytes
import Derived.Test.YtbkagefapmnojaaThs
namespace Go.Proofs.Ytbkagefapmnojaa
open Go.RowKit

/-- The document's Reader: the block p holds what is left, and whether it erred (then nothing is left). -/
def RRAt (w : World) (p g : Nat) (rest : List UInt8) (bad : Bool) : Prop := (bad = true → rest = []) ∧ ∃ ao cap, w.heap[p]? = some (.cells #[.slice ao rest.length cap, .bool bad] 50 (0, 0)) ∧ rest.length ≤ cap ∧ cap ≤ 9223372036854775807 ∧ (ao = none → rest.length = 0 ∧ cap = 0) ∧ g ≠ p ∧ (0 < rest.length → ∃ off, ao = some ⟨g, off, none⟩ ∧ g < w.heap.size ∧ BRow w g off rest)
theorem RRAt.stay {w w' : World} {p g : Nat} {rest : List UInt8} {bad : Bool} {S : Nat → Prop} (h : RRAt w p g rest bad) (k : Keeps w w' S) (hp : ¬ S p) (hg : 0 < rest.length → ¬ S g) : RRAt w' p g rest bad := by
  obtain ⟨h0, ao, cap, h1, h2, h3, h4, h5, h6⟩ := h
  refine ⟨h0, ao, cap, (k.block p (lt_of_block h1) hp).trans h1, h2, h3, h4, h5, fun hl => ?_⟩
  obtain ⟨off, e, hlt, hr⟩ := h6 hl
  exact ⟨off, e, Nat.lt_of_lt_of_le hlt k.size, hr.keeps hlt k (hg hl)⟩
theorem RRAt.lt {w : World} {p g : Nat} {rest : List UInt8} {bad : Bool} (h : RRAt w p g rest bad) : p < w.heap.size := by
  obtain ⟨-, ao, cap, h1, -⟩ := h
  exact lt_of_block h1
theorem RRAt.glt {w : World} {p g : Nat} {rest : List UInt8} {bad : Bool} (h : RRAt w p g rest bad) (hl : 0 < rest.length) : g < w.heap.size := by
  obtain ⟨-, ao, cap, -, -, -, -, -, h6⟩ := h
  obtain ⟨off, e, hlt, -⟩ := h6 hl
  exact hlt
def thRR (p g : Nat) (rest : List UInt8) (bad : Bool) : Th where
  T w := RRAt w p g rest bad
  F x := x = p ∨ (x = g ∧ 0 < rest.length)
  stay h k hS := h.stay k (hS _ (.inl rfl)) (fun hl => hS _ (.inr ⟨rfl, hl⟩))
  lt h hx := by
    rcases hx with rfl | ⟨rfl, hx⟩
    · exact h.lt
    · exact h.glt hx
theorem rrbad_any (p g : Nat) (rest : List UInt8) (bad : Bool) (w : World) (h : RRAt w p g rest bad) :
    Calls Try.prog 39 #[.pointer (some ⟨p, 0, none⟩)] w fun e w' => e = .returned (.tuple #[]) ∧ RRAt w' p g [] true ∧ Keeps w w' (fun x => x = p) := by
  obtain ⟨-, ao, cap, hh, -, -, -, hgp, -⟩ := h
  obtain ⟨c0, c1, f0, f1⟩ := cell_of_two hh
  have Hh := Lib.hid hh
  clear hh
  go_enter Try.func39, Try.ntmps39
  go_wp2_with fail
  go_end0
  exact ⟨rfl, ⟨fun _ => rfl, none, 0, set_two_fst (set_two_snd Hh.out), Nat.le_refl _, by omega, fun _ => ⟨rfl, rfl⟩, hgp, fun h => by simp at h⟩, (Keeps.set w _ _).trans (Keeps.set _ _ _) (fun _ h => h) (fun _ _ h => h)⟩
theorem rrwhole_any (p g : Nat) (rest : List UInt8) (bad : Bool) (w : World) (h : RRAt w p g rest bad) :
    Calls Try.prog 31 #[.pointer (some ⟨p, 0, none⟩)] w fun e w' => e = .returned (.bool (!bad && rest.isEmpty)) ∧ w' = w := by
  obtain ⟨-, ao, cap, hh, -⟩ := h
  obtain ⟨c0, c1, f0, f1⟩ := cell_of_two hh
  clear hh
  cases bad
  · cases rest with
    | nil =>
      simp only [List.length_nil] at c0
      go_enter Try.func31, Try.ntmps31
      go_wp2_with fail
      go_ret
      exact ⟨rfl, rfl⟩
    | cons x r =>
      have hl : ¬ (((x :: r).length : Nat) : Int) = 0 := by simp; omega
      obtain ⟨n, hn⟩ : ∃ n, n = (x :: r).length := ⟨_, rfl⟩
      rw [← hn] at c0 hl
      clear hn
      go_enter Try.func31, Try.ntmps31
      go_wp2_with fail
      go_ret
      refine ⟨?_, rfl⟩
      have : ((n : Int) == 0) = false := by rw [beq_eq_false_iff_ne]; exact hl
      first | rfl | (show Ending.returned (.bool ((n : Int) == 0)) = _; rw [this]; rfl)
  · go_enter Try.func31, Try.ntmps31
    go_wp2_with fail
    go_ret
    exact ⟨rfl, rfl⟩
/-- What is left of the document's Reader behind a take of n. -/
theorem rr_cut {w w1 : World} {p g n cap : Nat} {rest : List UInt8} {ao ao' : Option Addr} {cap' : Nat} (hw : w1.heap[p]? = some (.cells #[.slice ao rest.length cap, .bool false] 50 (0, 0))) (hn : n ≤ rest.length) (hlc : rest.length ≤ cap) (hcm : cap ≤ 9223372036854775807) (hgp : g ≠ p)
    (hrow : 0 < rest.length → ∃ off, ao = some ⟨g, off, none⟩ ∧ g < w.heap.size ∧ BRow w g off rest) (hb : Below w.heap.size w w1) (hc : cap' = cap - n) (h0 : ao' = none → rest.length - n = 0 ∧ cap' = 0) (hao : n < rest.length → ao' = ao.map fun x => x.add n) :
    RRAt (w1.setCell ⟨p, 0, none⟩ (.slice ao' (rest.length - n) cap')) p g (rest.drop n) false := by
  have hln : rest.length - n = (rest.drop n).length := by rw [List.length_drop]
  rw [hln]
  refine ⟨fun h => (nomatch h), ao', cap', set_two_fst hw, by rw [List.length_drop]; omega, by omega, fun h => by rw [List.length_drop]; exact h0 h, hgp, fun hp => ?_⟩
  rw [List.length_drop] at hp
  obtain ⟨off, e, hlt, hr⟩ := hrow (by omega)
  refine ⟨off + n, by rw [hao (by omega), e]; simp only [Option.map_some, add_none], by simp only [World.setCell, Array.size_modify]; exact Nat.lt_of_lt_of_le hlt hb.size, fun i hi => ?_⟩
  rw [World.cell?_of_block (w := w1) (Below.heap_setCell _ _ _ _ hgp)]
  rw [List.length_drop] at hi
  have := (hr.below hlt hb) (n + i) (by omega)
  rw [List.getElem_drop, Nat.add_assoc]
  exact this
theorem rrraw_no (p g : Nat) (rest : List UInt8) (bad : Bool) (n : Int) (w : World) (h : RRAt w p g rest bad) (hn : n < 0 ∨ (rest.length : Int) < n) :
    Calls Try.prog 42 #[.pointer (some ⟨p, 0, none⟩), .int .i64 n] w fun e w' => e = .returned (.slice none 0 0) ∧ RRAt w' p g [] true ∧ Keeps w w' (fun x => x = p) := by
  have Hbad := Lib.hid (rrbad_any p g rest bad w h)
  obtain ⟨-, ao, cap, hh, -⟩ := h
  obtain ⟨c0, c1, f0, f1⟩ := cell_of_two hh
  clear hh
  by_cases h1 : n < 0
  all_goals
    go_enter Try.func42, Try.ntmps42
    go_wp2_with fail
    all_goals first | (exfalso; omega) | skip
    refine Hbad.out.mono ?_
    rintro e w1 ⟨rfl, hr, hk⟩
    have hr' := hr
    obtain ⟨-, bo, bc, hh1, -⟩ := hr'
    obtain ⟨d0, d1, -, -⟩ := cell_of_two hh1
    have Hr := Lib.hid hr
    clear hh1 hr
    go_wp2_with fail
    go_ret
    exact ⟨rfl, Hr.out, hk⟩
theorem rrraw_bad (p g : Nat) (w : World) (h : RRAt w p g [] true) :
    Calls Try.prog 42 #[.pointer (some ⟨p, 0, none⟩), .int .i64 0] w fun e w' => e = .returned (.slice none 0 0) ∧ w' = w := by
  obtain ⟨-, ao, cap, hh, -⟩ := h
  obtain ⟨c0, c1, f0, f1⟩ := cell_of_two hh
  simp only [List.length_nil] at c0
  clear hh
  go_enter Try.func42, Try.ntmps42
  go_wp2_with fail
  go_ret
  exact ⟨rfl, rfl⟩
set_option maxHeartbeats 2000000 in
theorem rrraw_yes (p g : Nat) (rest : List UInt8) (n : Nat) (w : World) (h : RRAt w p g rest false) (hn : n ≤ rest.length) (hm : rest.length ≤ 140737488351232) :
    Calls Try.prog 42 #[.pointer (some ⟨p, 0, none⟩), .int .i64 n] w fun e w' => ∃ ao cap, e = .returned (.slice ao n cap) ∧ OwnB w' w.heap.size ao cap (rest.take n) ∧ RRAt w' p g (rest.drop n) false ∧ Keeps w w' (fun x => x = p) := by
  obtain ⟨-, ao, cap, hh, hlc, hcm, hnone, hgp, hrow⟩ := h
  obtain ⟨c0, c1, f0, f1⟩ := cell_of_two hh
  have Hh := Lib.hid hh
  have Hnone := Lib.hid hnone
  have Hrow := Lib.hid hrow
  clear hh hnone hrow
  obtain ⟨i0, hi, hz0, hz1, hz2⟩ := info_parts byteInfo
  have h1 : ¬ (n : Int) < 0 := by omega
  have h2 : ¬ (rest.length : Int) < n := by omega
  have hl : (rest.take n).length = n := by rw [List.length_take, Nat.min_eq_left hn]
  have hat : BAt w ao (rest.take n) := fun hp => by
    obtain ⟨off, e, hlt, hr⟩ := Hrow.out (by omega)
    exact ⟨g, off, e, hlt, fun i hi => by rw [List.getElem_take]; exact hr i (by omega)⟩
  have hlt := lt_of_block Hh.out
  have Hat := Lib.hid hat
  have Hl := Lib.hid hl
  clear hat hl
  go_enter Try.func42, Try.ntmps42
  go_wp2_with (at_builtin; go_must (refine wpList_append_any _ rfl (.tmp 23) (.tmp 29) 35 rfl w.heap.size 5 i0 (.int .u8 0) 1 1 Try.underlying35 hi hz0 hz1 hz2 rfl (by decide) _ 0 [] rfl (owns_emptyAt _ w.heap.size rfl w.heap.size (Nat.le_refl _) 5 1) ao n cap (bytV (rest.take n)) rfl (fun h => by have := Hnone.out h; omega) (by rw [bytV_length, Hl.out, Nat.mul_one]) (Hat.out.below ((Below.refl _ _).alloc (Nat.le_refl _) _)).cells (bytV_one _) (by unfold maxLen; omega) (by omega) (by simp) ?_))
  intro v w1 hown hgrow
  have hb : Below w.heap.size w w1 := below_grown ((Below.refl _ _).alloc (Nat.le_refl _) _) (by simp) hgrow (fun k hk => by simp [Value.ownBlock] at hk; omega)
  obtain ⟨bo, c, hv, ho⟩ := owned_bytes (l := rest.take n) (by simpa using hown) (by rw [Hl.out])
  rw [Hl.out] at hv
  have hh1 : w1.heap[p]? = some (.cells #[.slice ao rest.length cap, .bool false] 50 (0, 0)) := (hb.block p (lt_of_block Hh.out)).trans Hh.out
  obtain ⟨d0, d1, e0, e1⟩ := cell_of_two hh1
  have Ho := Lib.hid ho
  have Hh1 := Lib.hid hh1
  have Hb := Lib.hid hb
  rw [hv]
  clear ho hh1 hb hown hgrow hv c0 c1 f0 f1
  go_wp2_with fail
  · go_ret
    have hrn : rest.length = n := by omega
    refine ⟨bo, c, rfl, own_set Ho.out _ _ (lt_of_block Hh.out), ?_, (Keeps.of_grown Hb.out (Nat.le_refl _) (fun _ => False)).trans (Keeps.set _ _ _) (fun _ h => h.elim) (fun _ _ h => h)⟩
    exact rr_cut Hh1.out hn hlc hcm hgp Hrow.out Hb.out (by omega) (fun _ => ⟨by omega, rfl⟩) (fun h => by omega)
  · go_ret
    refine ⟨bo, c, rfl, own_set Ho.out _ _ (lt_of_block Hh.out), ?_, (Keeps.of_grown Hb.out (Nat.le_refl _) (fun _ => False)).trans (Keeps.set _ _ _) (fun _ h => h.elim) (fun _ _ h => h)⟩
    exact rr_cut Hh1.out hn hlc hcm hgp Hrow.out Hb.out rfl (fun h => by
      rw [Option.map_eq_none_iff] at h
      have := Hnone.out h
      omega) (fun _ => rfl)
end Go.Proofs.Ytbkagefapmnojaa
