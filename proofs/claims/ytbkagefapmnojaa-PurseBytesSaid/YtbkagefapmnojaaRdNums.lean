/- The contract of the Reader's Nums: a number into each place. -/
import Derived.Test.YtbkagefapmnojaaObj
import Derived.Test.YtbkagefapmnojaaOpenB
namespace Go.Proofs.Ytbkagefapmnojaa
open Go.RowKit

/-- A number taken: what comes, what is left, whether it erred. -/
def numT (rest : List UInt8) (bad : Bool) : Nat × List UInt8 × Bool := match numOf rest with | none => (0, [], true) | some (n, r) => (n, r, bad)
/-- What is left, and whether it erred, behind k numbers; the k-th number. -/
def rdSt (rest : List UInt8) (bad : Bool) : Nat → List UInt8 × Bool
  | 0 => (rest, bad)
  | k + 1 => (numT (rdSt rest bad k).1 (rdSt rest bad k).2).2
def rdVal (rest : List UInt8) (bad : Bool) (k : Nat) : Nat := (numT (rdSt rest bad k).1 (rdSt rest bad k).2).1
theorem numT_le (rest : List UInt8) (bad : Bool) : (numT rest bad).2.1.length ≤ rest.length ∧ (numT rest bad).1 ≤ 4611686018427387904 := by
  unfold numT
  cases h : numOf rest with
  | none => simp
  | some o =>
    obtain ⟨n, r⟩ := o
    obtain ⟨h1, k, -, hk, e⟩ := numR_left rest 0 0 n r h
    refine ⟨?_, h1⟩
    simp only [e, List.length_drop]
    omega
theorem rdSt_le (rest : List UInt8) (bad : Bool) (k : Nat) : (rdSt rest bad k).1.length ≤ rest.length := by
  induction k with
  | zero => exact Nat.le_refl _
  | succ k ih => exact Nat.le_trans (numT_le _ _).1 ih
theorem rdnum_t (p g : Nat) (rest : List UInt8) (bad : Bool) (w : World) (h : RdAt w p g rest bad) (hm : rest.length ≤ 140737488351232) :
    Calls Try.prog 36 #[.pointer (some ⟨p, 0, none⟩)] w fun e w' => e = .returned (.int .i64 ((numT rest bad).1 : Nat)) ∧ RdAt w' p g (numT rest bad).2.1 (numT rest bad).2.2 ∧ Keeps w w' (fun x => x = p) := by
  refine (rdnum_any p g rest bad w h hm).mono ?_
  rintro e w' ⟨h1, h2, h3⟩
  unfold numT
  cases ho : numOf rest with
  | none => exact ⟨(h2 ho).1, (h2 ho).2, h3⟩
  | some o =>
    obtain ⟨n, r⟩ := o
    exact ⟨(h1 n r ho).1, (h1 n r ho).2, h3⟩
/-- The numbers laid into their places. -/
def setPs (w : World) (ps : List (Option Addr)) (val : Nat → Nat) : Nat → World
  | 0 => w
  | k + 1 => match ps[k]? with
    | some (some a) => (setPs w ps val k).setCell a (.int .i64 (val k : Nat))
    | _ => setPs w ps val k
theorem setPs_size (w : World) (ps : List (Option Addr)) (val : Nat → Nat) (k : Nat) : (setPs w ps val k).heap.size = w.heap.size := by
  induction k with
  | zero => rfl
  | succ k ih =>
    simp only [setPs]
    split
    · simpa [World.setCell] using ih
    · exact ih
theorem setPs_cell {w : World} {ps : List (Option Addr)} {val : Nat → Nat} {a : Addr} {v : Value} (h : w.cell? a = some v) (k : Nat) : ∃ v', (setPs w ps val k).cell? a = some v' := by
  induction k with
  | zero => exact ⟨v, h⟩
  | succ k ih =>
    obtain ⟨v', hv⟩ := ih
    simp only [setPs]
    split
    · exact cell?_setCell_some hv
    · exact ⟨v', hv⟩
theorem setPs_frozen (w : World) (ps : List (Option Addr)) (val : Nat → Nat) (a : Addr) (k : Nat) : (setPs w ps val k).frozen? a = w.frozen? a := by
  induction k with
  | zero => rfl
  | succ k ih =>
    simp only [setPs]
    split
    · rw [World.frozen?_setCell]; exact ih
    · exact ih
/-- All blocks but those of the places are as they were. -/
theorem setPs_keeps (w : World) (ps : List (Option Addr)) (val : Nat → Nat) (k : Nat) : Keeps w (setPs w ps val k) (fun x => ∃ a, some a ∈ ps ∧ a.block = x) := by
  induction k with
  | zero => exact Keeps.refl _ _
  | succ k ih =>
    simp only [setPs]
    split
    · rename_i a ha
      exact ih.trans (Keeps.set _ _ _) (fun _ h => h) (fun x _ hx => ⟨a, List.mem_of_getElem? ha, hx.symm⟩)
    · exact ih
theorem Keeps.both {a b : World} {S : Nat → Prop} (h : Keeps a b S) (p : Addr) (v : Value) : Keeps (a.setCell p v) (b.setCell p v) S :=
  ⟨h.os, h.tape, h.output, by simpa [World.setCell] using h.size, fun k hk hn => by
    simp only [World.setCell, Array.size_modify] at hk
    have := h.block k hk hn
    simp only [World.setCell, Array.getElem?_modify, this]⟩
set_option maxHeartbeats 2000000 in
theorem rdnums_ptrs (p g s sc : Nat) (rest : List UInt8) (bad : Bool) (ps : List (Option Addr)) (w : World) (h : RdAt w p g rest bad) (hm : rest.length ≤ 140737488351232) (hl : ps.length ≤ 1000)
    (hrow : ∀ i, (hi : i < ps.length) → w.cell? ⟨s, i, none⟩ = some (.pointer ps[i])) (hs : s < w.heap.size) (hsp : s ≠ p)
    (hps : ∀ a, some a ∈ ps → a.block ≠ p ∧ a.block ≠ s ∧ (0 < rest.length → a.block ≠ g) ∧ (∃ v, w.cell? a = some v) ∧ w.frozen? a = false) :
    Calls Try.prog 27 #[.pointer (some ⟨p, 0, none⟩), .slice (some ⟨s, 0, none⟩) ps.length sc] w fun e w' => e = .returned (.tuple #[]) ∧ RdAt w' p g (rdSt rest bad ps.length).1 (rdSt rest bad ps.length).2 ∧ Keeps (setPs w ps (rdVal rest bad) ps.length) w' (fun x => x = p) := by
  have Hrow := Lib.hid hrow
  have Hps := Lib.hid hps
  have H := Lib.hid h
  clear hrow hps h
  go_enter Try.func27, Try.ntmps27
  go_wp2_with fail
  go_loopw [9] (fun s9 wr => ∃ k : Nat, s9 = .int .i64 k ∧ k ≤ ps.length ∧ Hid (RdAt wr p g (rdSt rest bad k).1 (rdSt rest bad k).2) ∧ Hid (Keeps (setPs w ps (rdVal rest bad) k) wr (fun x => x = p))) (fun s9 _ => ps.length - (intOf s9).toNat)
  case atStart => exact ⟨0, rfl, by omega, H, Keeps.refl _ _⟩
  case round =>
    obtain ⟨k, rfl, hk, HR, HK⟩ := hrel
    clear H
    by_cases hlt : k < ps.length
    · obtain ⟨q, hq⟩ : ∃ q, q = ps[k] := ⟨_, rfl⟩
      have hmem : q ∈ ps := by rw [hq]; exact List.getElem_mem _
      have hat : ps[k]? = some q := by rw [hq]; exact List.getElem?_eq_getElem hlt
      have hrk : w.cell? ⟨s, k, none⟩ = some (.pointer q) := by rw [hq]; exact Hrow.out k hlt
      have hsS : ¬ ∃ a, some a ∈ ps ∧ a.block = s := fun ⟨a, ha, e⟩ => (Hps.out a ha).2.1 e
      have hc := ((HK.out.cell (p := ⟨s, k, none⟩) (by rw [setPs_size]; exact hs) hsp).trans ((setPs_keeps w ps (rdVal rest bad) k).cell (p := ⟨s, k, none⟩) hs hsS)).trans hrk
      have hrl := rdSt_le rest bad k
      have Hq := Lib.hid (⟨hmem, hat⟩ : _ ∧ _)
      have HsS := Lib.hid hsS
      obtain ⟨v, hv⟩ : ∃ v, v = rdVal rest bad k := ⟨_, rfl⟩
      have hcall := rdnum_t p g _ _ wr HR.out (by omega)
      rw [show (numT (rdSt rest bad k).1 (rdSt rest bad k).2).1 = v from hv.symm, show (numT (rdSt rest bad k).1 (rdSt rest bad k).2).2.1 = (rdSt rest bad (k + 1)).1 from rfl, show (numT (rdSt rest bad k).1 (rdSt rest bad k).2).2.2 = (rdSt rest bad (k + 1)).2 from rfl] at hcall
      have Hcall := Lib.hid hcall
      have Hv := Lib.hid hv
      clear hq hmem hat hrk hsS hcall hv
      go_wp2_with fail
      refine Hcall.out.mono ?_
      rintro e w1 ⟨rfl, hr1, hk1⟩
      have HR1 := Lib.hid hr1
      have HK1 := Lib.hid (HK.out.trans hk1 (fun _ h => h) (fun _ _ h => h))
      clear hr1 hk1 HR HK hc
      cases q with
      | none =>
        go_wp2_with fail
        go_roundw
        case rel => exact ⟨k + 1, by go_num, by omega, HR1, by have := HK1.out; simp only [Hid, setPs, Hq.out.2]; exact this⟩
        case measure => simp [intOf]; omega
      | some a =>
        obtain ⟨n1, n2, n3, ⟨v0, n4⟩, n5⟩ := Hps.out a Hq.out.1
        obtain ⟨v1, hc1⟩ := setPs_cell (ps := ps) (val := rdVal rest bad) n4 k
        have hlt1 : a.block < w.heap.size := lt_of_cellB n4
        have hc2 := (HK1.out.cell (p := a) (by rw [setPs_size]; exact hlt1) n1).trans hc1
        have hf2 := ((HK1.out.frozen (p := a) (by rw [setPs_size]; exact hlt1) n1).trans (setPs_frozen w ps (rdVal rest bad) a k)).trans n5
        have hrl1 := rdSt_le rest bad (k + 1)
        have N1 := Lib.hid (⟨n1, fun h => n3 (Nat.lt_of_lt_of_le h hrl1)⟩ : a.block ≠ p ∧ (0 < (rdSt rest bad (k + 1)).1.length → a.block ≠ g))
        clear n1 n2 n3 n4 n5 hc1 hrl1 hrl
        go_wp2_with fail
        go_roundw
        case rel => exact ⟨k + 1, by go_num, by omega, HR1.out.stay (Keeps.set _ _ _) (fun h => N1.out.1 h.symm) (fun hl h => N1.out.2 hl h.symm), by
          have := HK1.out.both a (.int .i64 (v : Nat))
          simp only [Hid, setPs, Hq.out.2, ← Hv.out]
          exact this⟩
        case measure => simp [intOf]; omega
    · obtain rfl : k = ps.length := by omega
      go_wp2_with fail
      go_end0
      exact ⟨rfl, HR.out, HK.out⟩
end Go.Proofs.Ytbkagefapmnojaa
