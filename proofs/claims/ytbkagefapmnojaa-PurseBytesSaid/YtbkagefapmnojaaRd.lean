/- The Reader: what it is in memory; contracts of its small methods. -/
import Derived.Test.YtbkagefapmnojaaRaw
namespace Go.Proofs.Ytbkagefapmnojaa
open Go.RowKit

/-- A Reader: the block p holds what is left, and whether it erred; what is left lies in the block g. -/
def RdAt (w : World) (p g : Nat) (rest : List UInt8) (bad : Bool) : Prop := ∃ ao cap, w.heap[p]? = some (.cells #[.slice ao rest.length cap, .bool bad] 60 (0, 0)) ∧ rest.length ≤ cap ∧ cap ≤ 9223372036854775807 ∧ (ao = none → rest.length = 0 ∧ cap = 0) ∧ g ≠ p ∧ (0 < rest.length → ∃ off, ao = some ⟨g, off, none⟩ ∧ g < w.heap.size ∧ BRow w g off rest)
theorem cell_of_two {w : World} {b : Nat} {u v : Value} {t : TypeId} (h : w.heap[b]? = some (.cells #[u, v] t (0, 0))) : w.cell? ⟨b, 0, none⟩ = some u ∧ w.cell? ⟨b, 1, none⟩ = some v ∧ w.frozen? ⟨b, 0, none⟩ = false ∧ w.frozen? ⟨b, 1, none⟩ = false := by
  simp [World.cell?, World.frozen?, h]
theorem set_two_fst {w : World} {b : Nat} {u v x : Value} {t : TypeId} (h : w.heap[b]? = some (.cells #[u, v] t (0, 0))) : (w.setCell ⟨b, 0, none⟩ x).heap[b]? = some (.cells #[x, v] t (0, 0)) := by
  simp [World.setCell, Array.getElem?_modify, h]
theorem set_two_snd {w : World} {b : Nat} {u v x : Value} {t : TypeId} (h : w.heap[b]? = some (.cells #[u, v] t (0, 0))) : (w.setCell ⟨b, 1, none⟩ x).heap[b]? = some (.cells #[u, x] t (0, 0)) := by
  simp [World.setCell, Array.getElem?_modify, h]
theorem RdAt.keeps {w w' : World} {p g : Nat} {rest : List UInt8} {bad : Bool} {S : Nat → Prop} (h : RdAt w p g rest bad) (k : Keeps w w' S) (hp : ¬ S p) (hg : ¬ S g) : RdAt w' p g rest bad := by
  obtain ⟨ao, cap, h1, h2, h3, h4, h5, h6⟩ := h
  refine ⟨ao, cap, (k.block p (lt_of_block h1) hp).trans h1, h2, h3, h4, h5, fun hl => ?_⟩
  obtain ⟨off, e, hlt, hr⟩ := h6 hl
  exact ⟨off, e, Nat.lt_of_lt_of_le hlt k.size, hr.keeps hlt k hg⟩

theorem bad_any (p g : Nat) (rest : List UInt8) (bad : Bool) (w : World) (h : RdAt w p g rest bad) :
    Calls Try.prog 41 #[.pointer (some ⟨p, 0, none⟩)] w fun e w' => e = .returned (.tuple #[]) ∧ RdAt w' p g [] true ∧ Keeps w w' (fun x => x = p) := by
  obtain ⟨ao, cap, hh, -, -, -, hgp, -⟩ := h
  obtain ⟨c0, c1, f0, f1⟩ := cell_of_two hh
  have Hh := Lib.hid hh
  clear hh
  go_enter Try.func41, Try.ntmps41
  go_wp2_with fail
  go_end0
  exact ⟨rfl, ⟨none, 0, set_two_snd (set_two_fst Hh.out), Nat.le_refl _, by omega, fun _ => ⟨rfl, rfl⟩, hgp, fun h => by simp at h⟩, (Keeps.set w _ _).trans (Keeps.set _ _ _) (fun _ h => h) (fun _ _ h => h)⟩
theorem good_any (p g : Nat) (rest : List UInt8) (bad : Bool) (w : World) (h : RdAt w p g rest bad) :
    Calls Try.prog 37 #[.pointer (some ⟨p, 0, none⟩)] w fun e w' => e = .returned (.bool !bad) ∧ w = w' := by
  obtain ⟨ao, cap, hh, -⟩ := h
  obtain ⟨c0, c1, f0, f1⟩ := cell_of_two hh
  clear hh
  go_enter Try.func37, Try.ntmps37
  go_wp2_with fail
  go_ret
  exact ⟨rfl, rfl⟩
theorem whole_any (p g : Nat) (rest : List UInt8) (bad : Bool) (w : World) (h : RdAt w p g rest bad) (hm : rest.length ≤ 140737488351232) :
    Calls Try.prog 28 #[.pointer (some ⟨p, 0, none⟩)] w fun e w' => e = .returned (.bool (!bad && rest.isEmpty)) ∧ w = w' := by
  have hgood := good_any p g rest bad w h
  have Hgood := Lib.hid hgood
  obtain ⟨ao, cap, hh, -⟩ := h
  obtain ⟨c0, c1, f0, f1⟩ := cell_of_two hh
  clear hh hgood
  cases bad
  · go_enter Try.func28, Try.ntmps28
    go_wp2_with fail
    refine Hgood.out.mono ?_
    rintro e w1 ⟨rfl, rfl⟩
    go_wp2_with fail
    go_ret
    refine ⟨?_, rfl⟩
    cases rest with
    | nil => simp
    | cons x r => simp; omega
  · go_enter Try.func28, Try.ntmps28
    go_wp2_with fail
    refine Hgood.out.mono ?_
    rintro e w1 ⟨rfl, rfl⟩
    go_wp2_with fail
    go_ret
    exact ⟨rfl, rfl⟩
end Go.Proofs.Ytbkagefapmnojaa
