/- The document's Next. -/
import Derived.Test.YtclbplodbmldpaaPcOut
namespace Go.Proofs.Ytclbplodbmldpaa
open Go.RowKit

set_option maxRecDepth 20000 in
set_option maxHeartbeats 4000000 in
theorem refNext_any (p g : Nat) (l : List UInt8) (k : Nat) (w : World) (h : SAt w p g 29 l k) (hk : k ≤ l.length) (hm : l.length ≤ 140737488351232) :
    Calls Try.prog 11 #[.pointer (some ⟨p, 0, none⟩)] w fun e w' => ∃ ao cap, e = .returned (.tuple #[.int .i64 k, .slice ao (pieceOf l k).length cap]) ∧ OwnB w' w.heap.size ao cap (pieceOf l k) ∧ Below w.heap.size w w' := by
  obtain ⟨ao, cap, hh, hlc, hcm, hnone, hrow⟩ := h
  obtain ⟨c0, c1, f0, f1⟩ := cell_of_two hh
  have hlt := lt_of_block hh
  have Hrow := Lib.hid hrow
  have Hnone := Lib.hid hnone
  clear hh hrow hnone
  obtain ⟨q, hq⟩ : ∃ q : Nat, q = min 512 (l.length - k) := ⟨_, rfl⟩
  have hmin : min (512 : Int) ((l.length : Int) - k) = q := by omega
  have hpl : (pieceOf l k).length = q := by rw [pieceOf_length]; omega
  obtain ⟨z, hz⟩ : ∃ z : Nat, z = k + q := ⟨_, rfl⟩
  have hq1 : z ≤ cap := by omega
  have hq2 : k ≤ z := by omega
  have hkq : (k : Int) ≤ z := by omega
  have hqc : (z : Int) ≤ cap := by omega
  have hk0 : (0 : Int) ≤ k := by omega
  have hwr : IntKind.i64.wrap ((l.length : Int) - k) = (l.length : Int) - k := by rw [IntKind.wrap_i64]; omega
  have hwr2 : IntKind.i64.wrap (z : Int) = z := by rw [IntKind.wrap_i64]; omega
  have hsum : (k : Int) + q = z := by omega
  have hzk : z - k = q := by omega
  have hq3 : z ≤ l.length := by omega
  have Hq := Lib.hid hq
  have Hz := Lib.hid hz
  clear hq hz
  obtain ⟨i0, hi, hz0, hz1, hz2⟩ := info_parts byteInfo
  have hsrc : ∀ (w' : World) (ao' : Option Addr), Below w.heap.size w w' → (k < l.length → ao' = ao.map fun x => x.add k) → BAt w' ao' (pieceOf l k) := fun w' ao' hb ha => (bat_cut Hrow.out k 512 ao' hk ha).below hb
  have Hsrc := Lib.hid hsrc
  have Hpl := Lib.hid hpl
  clear hsrc hpl
  have hpl : (bytV (pieceOf l k)).length = q * 1 := by rw [bytV_length, Hpl.out, Nat.mul_one]
  have hfin : ∀ (wa w1 : World) (v : Value), Below w.heap.size w wa → w1.ownsRow wa.heap.size 5 1 v (0 + q) ([] ++ bytV (pieceOf l k)) → (wa.drew.alloc (.cells #[] 5)).grownBy w1 (Value.slice (some ⟨wa.heap.size, 0, none⟩) 0 0).ownBlock → (∃ bo c, v = .slice bo q c ∧ OwnB w1 w.heap.size bo c (pieceOf l k)) ∧ Below w.heap.size w w1 ∧ w1.cell? ⟨p, 0, none⟩ = some (.slice ao l.length cap) ∧ w1.cell? ⟨p, 1, none⟩ = some (.int .i64 k) := by
    intro wa w1 v hb hown hgrow
    have hs := hb.size
    have hb1 : Below w.heap.size w w1 := below_grown (hb.drew.alloc (by simp; omega) _) (by simp; omega) hgrow (fun j hj => by simp [Value.ownBlock] at hj; omega)
    obtain ⟨bo, c, hv, ho⟩ := owned_bytes (l := pieceOf l k) (by simpa using hown) (by rw [Hpl.out])
    rw [Hpl.out] at hv
    exact ⟨⟨bo, c, hv, own_weak ho hs⟩, hb1, (hb1.cell (p := ⟨p, 0, none⟩) hlt).trans c0, (hb1.cell (p := ⟨p, 1, none⟩) hlt).trans c1⟩
  have Hfin := Lib.hid hfin
  clear hfin
  rw [Hpl.out]
  by_cases hkc : cap = k
  · obtain rfl : q = 0 := by omega
    obtain rfl : z = k := by omega
    subst hkc
    clear hq1 hq2 hkq hqc hzk
    go_enter Try.func11, Try.ntmps11
    go_wp2_with fail
    go_quiet (fail)
    go_wp2_with fail
    refine wp_name fun wa hwa => ?_
    have hwb : Below w.heap.size w wa := by rw [hwa]; exact below_drawn (Below.refl _ _)
    have e0 := (hwb.cell (p := ⟨p, 0, none⟩) hlt).trans c0
    have e1 := (hwb.cell (p := ⟨p, 1, none⟩) hlt).trans c1
    have hws := hwb.size
    have hn := World.new_ne wa ⟨p, 0, none⟩ e0
    have hn' := World.new_ne wa ⟨p, 1, none⟩ e1
    have Hwb := Lib.hid hwb
    clear hwa hwb
    go_region_held3 (fun w' => w'.cell? ⟨p, 0, none⟩ = some (.slice ao l.length cap) ∧ w'.cell? ⟨p, 1, none⟩ = some (.int .i64 cap)) (go_keep) ((refine step_append_any _ (by rfl) (.tmp 20) (.tmp 35) 22 (by rfl) wa.heap.size 5 i0 (.int .u8 0) 1 1 Try.underlying22 hi hz0 hz1 hz2 rfl (by decide) _ 0 [] (by rfl) (owns_emptyAt _ wa.heap.size rfl wa.heap.size (Nat.le_refl _) 5 1) ao 0 0 (bytV (pieceOf l cap)) (by first | rfl | simp) (fun _ => ⟨rfl, rfl⟩) hpl (Hsrc.out _ _ (Hwb.out.drew.alloc hws _) (fun h => by omega)).cells (bytV_one _) (by unfold maxLen; omega) (by omega) (by simp) ?_; intro v w1 hown hgrow; obtain ⟨⟨bo, c, rfl, ho⟩, hb1, d0, d1⟩ := Hfin.out _ _ _ Hwb.out hown hgrow; have Ho := Lib.hid ho; have Hb1 := Lib.hid hb1; clear hown hgrow ho hb1))
    go_wp2_with fail
    exact bodyPost_ret (v := .tuple #[.int .i64 cap, .slice bo 0 c]) (by simp only [results, Try.results11]; go_simp) rfl ⟨bo, c, rfl, Ho.out, Hb1.out⟩
  · have hn0 : (ao.map fun x => x.add k) = none → q = 0 ∧ cap - k = 0 := fun h => by
      rw [Option.map_eq_none_iff] at h
      have := Hnone.out h
      omega
    have Hn0 := Lib.hid hn0
    clear hn0
    go_enter Try.func11, Try.ntmps11
    go_wp2_with fail
    go_quiet (fail)
    go_wp2_with fail
    refine wp_name fun wa hwa => ?_
    have hwb : Below w.heap.size w wa := by rw [hwa]; exact below_drawn (Below.refl _ _)
    have e0 := (hwb.cell (p := ⟨p, 0, none⟩) hlt).trans c0
    have e1 := (hwb.cell (p := ⟨p, 1, none⟩) hlt).trans c1
    have hws := hwb.size
    have hn := World.new_ne wa ⟨p, 0, none⟩ e0
    have hn' := World.new_ne wa ⟨p, 1, none⟩ e1
    have Hwb := Lib.hid hwb
    clear hwa hwb
    go_region_held3 (fun w' => w'.cell? ⟨p, 0, none⟩ = some (.slice ao l.length cap) ∧ w'.cell? ⟨p, 1, none⟩ = some (.int .i64 k)) (go_keep) ((refine step_append_any _ (by rfl) (.tmp 20) (.tmp 35) 22 (by rfl) wa.heap.size 5 i0 (.int .u8 0) 1 1 Try.underlying22 hi hz0 hz1 hz2 rfl (by decide) _ 0 [] (by rfl) (owns_emptyAt _ wa.heap.size rfl wa.heap.size (Nat.le_refl _) 5 1) (ao.map fun x => x.add k) q (cap - k) (bytV (pieceOf l k)) (by first | rfl | simp) Hn0.out hpl (Hsrc.out _ _ (Hwb.out.drew.alloc hws _) (fun _ => rfl)).cells (bytV_one _) (by unfold maxLen; omega) (by omega) (by simp) ?_; intro v w1 hown hgrow; obtain ⟨⟨bo, c, rfl, ho⟩, hb1, d0, d1⟩ := Hfin.out _ _ _ Hwb.out hown hgrow; have Ho := Lib.hid ho; have Hb1 := Lib.hid hb1; clear hown hgrow ho hb1))
    go_wp2_with fail
    exact bodyPost_ret (v := .tuple #[.int .i64 k, .slice bo q c]) (by simp only [results, Try.results11]; go_simp) rfl ⟨bo, c, rfl, Ho.out, Hb1.out⟩
end Go.Proofs.Ytclbplodbmldpaa
