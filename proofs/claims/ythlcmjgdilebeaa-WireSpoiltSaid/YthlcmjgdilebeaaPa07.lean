/- Texts put together: RdNums, BackNum, BackRd, BackOp, RepP, ItIs, Sm. -/
import Derived.Test.YthlcmjgdilebeaaPa01
import Derived.Test.YthlcmjgdilebeaaPa03
import Derived.Test.YthlcmjgdilebeaaPa06
import Derived.Deep.DrawnRows
import Derived.Deep.RegionLaw
import Derived.Laws.Bits64b
import Derived.Laws.BytesArg
import Derived.Shelf.Bytes.SlSmallAll
namespace Go.Proofs.Ythlcmjgdilebeaa
open Go.RowKit
set_option maxRecDepth 20000

/-- A number taken: what comes, what is left, whether it erred. -/
def numT (rest : List UInt8) (bad : Bool) : Nat × List UInt8 × Bool := match numOf rest with | none => (0, [], true) | some (n, r) => (n, r, bad)
/-- What is left, and whether it erred, behind k numbers; the k-th number. -/
def rdSt (rest : List UInt8) (bad : Bool) : Nat → List UInt8 × Bool
  | 0 => (rest, bad)
  | k + 1 => (numT (rdSt rest bad k).1 (rdSt rest bad k).2).2
def rdVal (rest : List UInt8) (bad : Bool) (k : Nat) : Nat := (numT (rdSt rest bad k).1 (rdSt rest bad k).2).1
theorem numT_le (rest : List UInt8) (bad : Bool) : (numT rest bad).2.1.length ≤ rest.length ∧ (numT rest bad).1 ≤ 4611686018427387904 := by
  unfold numT
  cases h : numOf rest with
  | none => simp
  | some o =>
    obtain ⟨n, r⟩ := o
    obtain ⟨h1, k, -, hk, e⟩ := numR_left rest 0 0 n r h
    refine ⟨?_, h1⟩
    simp only [e, List.length_drop]
    omega
theorem rdSt_le (rest : List UInt8) (bad : Bool) (k : Nat) : (rdSt rest bad k).1.length ≤ rest.length := by
  induction k with
  | zero => exact Nat.le_refl _
  | succ k ih => exact Nat.le_trans (numT_le _ _).1 ih
theorem rdnum_t (p g : Nat) (rest : List UInt8) (bad : Bool) (w : World) (h : RdAt w p g rest bad) (hm : rest.length ≤ 140737488351232) :
    Calls Try.prog 71 #[.pointer (some ⟨p, 0, none⟩)] w fun e w' => e = .returned (.int .i64 ((numT rest bad).1 : Nat)) ∧ RdAt w' p g (numT rest bad).2.1 (numT rest bad).2.2 ∧ Keeps w w' (fun x => x = p) := by
  refine (rdnum_any p g rest bad w h hm).mono ?_
  rintro e w' ⟨h1, h2, h3⟩
  unfold numT
  cases ho : numOf rest with
  | none => exact ⟨(h2 ho).1, (h2 ho).2, h3⟩
  | some o =>
    obtain ⟨n, r⟩ := o
    exact ⟨(h1 n r ho).1, (h1 n r ho).2, h3⟩
/-- The numbers laid into their places. -/
def setPs (w : World) (ps : List (Option Addr)) (val : Nat → Nat) : Nat → World
  | 0 => w
  | k + 1 => match ps[k]? with
    | some (some a) => (setPs w ps val k).setCell a (.int .i64 (val k : Nat))
    | _ => setPs w ps val k
theorem setPs_size (w : World) (ps : List (Option Addr)) (val : Nat → Nat) (k : Nat) : (setPs w ps val k).heap.size = w.heap.size := by
  induction k with
  | zero => rfl
  | succ k ih =>
    simp only [setPs]
    split
    · simpa [World.setCell] using ih
    · exact ih
theorem setPs_cell {w : World} {ps : List (Option Addr)} {val : Nat → Nat} {a : Addr} {v : Value} (h : w.cell? a = some v) (k : Nat) : ∃ v', (setPs w ps val k).cell? a = some v' := by
  induction k with
  | zero => exact ⟨v, h⟩
  | succ k ih =>
    obtain ⟨v', hv⟩ := ih
    simp only [setPs]
    split
    · exact cell?_setCell_some hv
    · exact ⟨v', hv⟩
theorem setPs_frozen (w : World) (ps : List (Option Addr)) (val : Nat → Nat) (a : Addr) (k : Nat) : (setPs w ps val k).frozen? a = w.frozen? a := by
  induction k with
  | zero => rfl
  | succ k ih =>
    simp only [setPs]
    split
    · rw [World.frozen?_setCell]; exact ih
    · exact ih
/-- All blocks but those of the places are as they were. -/
theorem setPs_keeps (w : World) (ps : List (Option Addr)) (val : Nat → Nat) (k : Nat) : Keeps w (setPs w ps val k) (fun x => ∃ a, some a ∈ ps ∧ a.block = x) := by
  induction k with
  | zero => exact Keeps.refl _ _
  | succ k ih =>
    simp only [setPs]
    split
    · rename_i a ha
      exact ih.trans (Keeps.set _ _ _) (fun _ h => h) (fun x _ hx => ⟨a, List.mem_of_getElem? ha, hx.symm⟩)
    · exact ih
theorem Keeps.both {a b : World} {S : Nat → Prop} (h : Keeps a b S) (p : Addr) (v : Value) : Keeps (a.setCell p v) (b.setCell p v) S :=
  ⟨h.os, h.tape, h.output, by simpa [World.setCell] using h.size, fun k hk hn => by
    simp only [World.setCell, Array.size_modify] at hk
    have := h.block k hk hn
    simp only [World.setCell, Array.getElem?_modify, this]⟩
set_option maxHeartbeats 2000000 in
theorem rdnums_ptrs (p g s sc : Nat) (rest : List UInt8) (bad : Bool) (ps : List (Option Addr)) (w : World) (h : RdAt w p g rest bad) (hm : rest.length ≤ 140737488351232) (hl : ps.length ≤ 1000)
    (hrow : ∀ i, (hi : i < ps.length) → w.cell? ⟨s, i, none⟩ = some (.pointer ps[i])) (hs : s < w.heap.size) (hsp : s ≠ p)
    (hps : ∀ a, some a ∈ ps → a.block ≠ p ∧ a.block ≠ s ∧ (0 < rest.length → a.block ≠ g) ∧ (∃ v, w.cell? a = some v) ∧ w.frozen? a = false) :
    Calls Try.prog 41 #[.pointer (some ⟨p, 0, none⟩), .slice (some ⟨s, 0, none⟩) ps.length sc] w fun e w' => e = .returned (.tuple #[]) ∧ RdAt w' p g (rdSt rest bad ps.length).1 (rdSt rest bad ps.length).2 ∧ Keeps (setPs w ps (rdVal rest bad) ps.length) w' (fun x => x = p) := by
  have Hrow := Lib.hid hrow
  have Hps := Lib.hid hps
  have H := Lib.hid h
  clear hrow hps h
  go_enter Try.func41, Try.ntmps41
  go_wp2_with fail
  go_loopw [9] (fun s9 wr => ∃ k : Nat, s9 = .int .i64 k ∧ k ≤ ps.length ∧ Hid (RdAt wr p g (rdSt rest bad k).1 (rdSt rest bad k).2) ∧ Hid (Keeps (setPs w ps (rdVal rest bad) k) wr (fun x => x = p))) (fun s9 _ => ps.length - (intOf s9).toNat)
  case atStart => exact ⟨0, rfl, by omega, H, Keeps.refl _ _⟩
  case round =>
    obtain ⟨k, rfl, hk, HR, HK⟩ := hrel
    clear H
    by_cases hlt : k < ps.length
    · obtain ⟨q, hq⟩ : ∃ q, q = ps[k] := ⟨_, rfl⟩
      have hmem : q ∈ ps := by rw [hq]; exact List.getElem_mem _
      have hat : ps[k]? = some q := by rw [hq]; exact List.getElem?_eq_getElem hlt
      have hrk : w.cell? ⟨s, k, none⟩ = some (.pointer q) := by rw [hq]; exact Hrow.out k hlt
      have hsS : ¬ ∃ a, some a ∈ ps ∧ a.block = s := fun ⟨a, ha, e⟩ => (Hps.out a ha).2.1 e
      have hc := ((HK.out.cell (p := ⟨s, k, none⟩) (by rw [setPs_size]; exact hs) hsp).trans ((setPs_keeps w ps (rdVal rest bad) k).cell (p := ⟨s, k, none⟩) hs hsS)).trans hrk
      have hrl := rdSt_le rest bad k
      have Hq := Lib.hid (⟨hmem, hat⟩ : _ ∧ _)
      have HsS := Lib.hid hsS
      obtain ⟨v, hv⟩ : ∃ v, v = rdVal rest bad k := ⟨_, rfl⟩
      have hcall := rdnum_t p g _ _ wr HR.out (by omega)
      rw [show (numT (rdSt rest bad k).1 (rdSt rest bad k).2).1 = v from hv.symm, show (numT (rdSt rest bad k).1 (rdSt rest bad k).2).2.1 = (rdSt rest bad (k + 1)).1 from rfl, show (numT (rdSt rest bad k).1 (rdSt rest bad k).2).2.2 = (rdSt rest bad (k + 1)).2 from rfl] at hcall
      have Hcall := Lib.hid hcall
      have Hv := Lib.hid hv
      clear hq hmem hat hrk hsS hcall hv
      go_wp2_with fail
      refine Hcall.out.mono ?_
      rintro e w1 ⟨rfl, hr1, hk1⟩
      have HR1 := Lib.hid hr1
      have HK1 := Lib.hid (HK.out.trans hk1 (fun _ h => h) (fun _ _ h => h))
      clear hr1 hk1 HR HK hc
      cases q with
      | none =>
        go_wp2_with fail
        go_roundw
        case rel => exact ⟨k + 1, by go_num, by omega, HR1, by have := HK1.out; simp only [Hid, setPs, Hq.out.2]; exact this⟩
        case measure => simp [intOf]; omega
      | some a =>
        obtain ⟨n1, n2, n3, ⟨v0, n4⟩, n5⟩ := Hps.out a Hq.out.1
        obtain ⟨v1, hc1⟩ := setPs_cell (ps := ps) (val := rdVal rest bad) n4 k
        have hlt1 : a.block < w.heap.size := lt_of_cellB n4
        have hc2 := (HK1.out.cell (p := a) (by rw [setPs_size]; exact hlt1) n1).trans hc1
        have hf2 := ((HK1.out.frozen (p := a) (by rw [setPs_size]; exact hlt1) n1).trans (setPs_frozen w ps (rdVal rest bad) a k)).trans n5
        have hrl1 := rdSt_le rest bad (k + 1)
        have N1 := Lib.hid (⟨n1, fun h => n3 (Nat.lt_of_lt_of_le h hrl1)⟩ : a.block ≠ p ∧ (0 < (rdSt rest bad (k + 1)).1.length → a.block ≠ g))
        clear n1 n2 n3 n4 n5 hc1 hrl1 hrl
        go_wp2_with fail
        go_roundw
        case rel => exact ⟨k + 1, by go_num, by omega, HR1.out.stay (Keeps.set _ _ _) (fun h => N1.out.1 h.symm) (fun hl h => N1.out.2 hl h.symm), by
          have := HK1.out.both a (.int .i64 (v : Nat))
          simp only [Hid, setPs, Hq.out.2, ← Hv.out]
          exact this⟩
        case measure => simp [intOf]; omega
    · obtain rfl : k = ps.length := by omega
      go_wp2_with fail
      go_end0
      exact ⟨rfl, HR.out, HK.out⟩
end Go.Proofs.Ythlcmjgdilebeaa

namespace Go.Proofs.Ythlcmjgdilebeaa

theorem numR_enc : ∀ (m n i u : Nat) (r : List UInt8), n < m → i < 9 → (0 < i → 0 < n) → u + n * 128 ^ i ≤ 4611686018427387904 → numR i u (encN n ++ r) = some (u + n * 128 ^ i, r)
  | 0, _, _, _, _, h, _, _, _ => by omega
  | m + 1, n, i, u, r, h, hi, h0, hle => by
    have hp : 0 < 128 ^ i := Nat.pow_pos (by omega)
    by_cases h128 : n < 128
    · rw [encN_small h128]
      simp only [List.cons_append, List.nil_append, numR]
      have hc : (UInt8.ofNat n).toNat = n := by simp; omega
      rw [if_neg, hc, if_pos h128, if_neg (by omega)]
      rintro (h1 | ⟨h1, h2⟩)
      · omega
      · have := congrArg UInt8.toNat h2
        rw [hc, UInt8.toNat_zero] at this
        have := h0 h1
        omega
    · have hi8 : i < 8 := by
        apply Nat.lt_of_not_le
        intro h8
        have h1 : 128 ^ 8 ≤ 128 ^ i := Nat.pow_le_pow_right (by omega) h8
        have h2 : 128 * 128 ^ 8 ≤ n * 128 ^ i := Nat.mul_le_mul (by omega) h1
        have h3 : (128 : Nat) * 128 ^ 8 = 9223372036854775808 := by decide
        omega
      have hn62 : n ≤ 4611686018427387904 := by
        have : n * 1 ≤ n * 128 ^ i := Nat.mul_le_mul_left _ hp
        omega
      rw [encN_big h128 hn62]
      simp only [List.cons_append, numR]
      have hc : (UInt8.ofNat (n % 128 + 128)).toNat = n % 128 + 128 := by simp; omega
      have hsum : u + n % 128 * 128 ^ i + n / 128 * 128 ^ (i + 1) = u + n * 128 ^ i := by
        have h1 : n / 128 * 128 ^ (i + 1) = n / 128 * 128 * 128 ^ i := by rw [Nat.pow_succ, Nat.mul_assoc, Nat.mul_comm 128]
        have h2 : n % 128 * 128 ^ i + n / 128 * 128 * 128 ^ i = n * 128 ^ i := by
          rw [← Nat.add_mul]; congr 1; omega
        omega
      rw [if_neg, hc, if_neg (by omega), show (n % 128 + 128) % 128 = n % 128 from by omega, numR_enc m (n / 128) (i + 1) _ r (by omega) (by omega) (by omega) (by omega), hsum]
      rintro (h1 | ⟨h1, h2⟩)
      · omega
      · have := congrArg UInt8.toNat h2
        rw [hc, UInt8.toNat_zero] at this
        omega
theorem numOf_enc (n : Nat) (r : List UInt8) (h : n ≤ 4611686018427387904) : numOf (encN n ++ r) = some (n, r) := by
  have := numR_enc (n + 1) n 0 0 r (by omega) (by omega) (by omega) (by omega)
  simpa [numOf] using this
theorem bytesOf_enc (l r : List UInt8) (h : l.length ≤ 4611686018427387904) : bytesOf (encRow l ++ r) = some (l, r) := by
  unfold bytesOf encRow
  rw [List.append_assoc, numOf_enc _ _ h]
  simp
theorem tookOf_enc (l r : List UInt8) (bad : Bool) (h : l.length ≤ 4611686018427387904) : tookOf (encRow l ++ r) bad = (l, r, bad) := by
  unfold tookOf
  rw [bytesOf_enc l r h]
end Go.Proofs.Ythlcmjgdilebeaa

namespace Go.Proofs.Ythlcmjgdilebeaa
open Go.RowKit
set_option maxRecDepth 20000

theorem numR_back : ∀ (l : List UInt8) (i u n : Nat) (r : List UInt8), numR i u l = some (n, r) → u < 128 ^ i → ∃ m, n = u + m * 128 ^ i ∧ l = encN m ++ r ∧ (0 < i → 0 < m)
  | [], i, u, n, r, h, _ => by simp [numR] at h
  | c :: t, i, u, n, r, h, hu => by
    have hle := (numR_left (c :: t) i u n r h).1
    rw [numR] at h
    split at h
    · cases h
    · rename_i hc
      split at h
      · rename_i hlt
        split at h
        · cases h
        · simp only [Option.some.injEq, Prod.mk.injEq] at h
          obtain ⟨rfl, rfl⟩ := h
          refine ⟨c.toNat, rfl, ?_, fun hi => ?_⟩
          · rw [encN_small hlt]; simp
          · rcases Nat.eq_zero_or_pos c.toNat with h0 | h0
            · exact absurd (.inr ⟨hi, UInt8.toNat_inj.1 (by simpa using h0)⟩) hc
            · exact h0
      · rename_i hge
        have hu2 := digit_lt i u (c.toNat % 128) hu (Nat.mod_lt _ (by omega))
        obtain ⟨m, hn, ht, hm⟩ := numR_back t (i + 1) _ n r h hu2
        have hm := hm (by omega)
        have hlt := c.toNat_lt
        have hn2 : n = u + (c.toNat % 128 + 128 * m) * 128 ^ i := by
          rw [hn, Nat.pow_succ, Nat.add_mul, ← Nat.add_assoc]
          congr 1
          generalize 128 ^ i = q
          ac_rfl
        refine ⟨c.toNat % 128 + 128 * m, hn2, ?_, fun _ => by omega⟩
        have hbig : ¬ (c.toNat % 128 + 128 * m < 128) := by omega
        have hp : 0 < 128 ^ i := Nat.pow_pos (by omega)
        have hsz : c.toNat % 128 + 128 * m ≤ 4611686018427387904 := by
          have := Nat.le_mul_of_pos_right (c.toNat % 128 + 128 * m) hp
          omega
        rw [encN_big hbig hsz, show (c.toNat % 128 + 128 * m) % 128 + 128 = c.toNat by omega, show (c.toNat % 128 + 128 * m) / 128 = m by omega, ht]
        simp
theorem numT_back {rest : List UInt8} {bad : Bool} (h : (numT rest bad).2.2 = false) : bad = false ∧ rest = encN (numT rest bad).1 ++ (numT rest bad).2.1 := by
  unfold numT at h ⊢
  cases ho : numOf rest with
  | none => rw [ho] at h; simp at h
  | some o =>
    obtain ⟨n, r⟩ := o
    rw [ho] at h
    simp only at h ⊢
    obtain ⟨m, hn, hl, -⟩ := numR_back rest 0 0 n r ho (by simp)
    obtain rfl : n = m := by simpa using hn
    exact ⟨h, hl⟩
theorem tookOf_back {rest : List UInt8} {bad : Bool} (h : (tookOf rest bad).2.2 = false) : bad = false ∧ rest = encRow (tookOf rest bad).1 ++ (tookOf rest bad).2.1 := by
  unfold tookOf bytesOf at h ⊢
  cases ho : numOf rest with
  | none => rw [ho] at h; simp at h
  | some o =>
    obtain ⟨n, r⟩ := o
    rw [ho] at h
    obtain ⟨m, hn, hl, -⟩ := numR_back rest 0 0 n r ho (by simp)
    obtain rfl : n = m := by simpa using hn
    by_cases hc : n ≤ r.length
    · simp only [hc, if_true] at h ⊢
      refine ⟨h, ?_⟩
      unfold encRow
      rw [List.length_take, Nat.min_eq_left hc, List.append_assoc, List.take_append_drop]
      exact hl
    · simp only [hc, if_false] at h
      cases h
theorem rdSt_back {rest : List UInt8} {bad : Bool} {k : Nat} (h : (rdSt rest bad (k + 1)).2 = false) : (rdSt rest bad k).2 = false ∧ (rdSt rest bad k).1 = encN (rdVal rest bad k) ++ (rdSt rest bad (k + 1)).1 := numT_back h
theorem rdVal_le (rest : List UInt8) (bad : Bool) (k : Nat) : rdVal rest bad k ≤ 4611686018427387904 := (numT_le _ _).2
theorem numT_enc (n : Nat) (r : List UInt8) (bad : Bool) (h : n ≤ 4611686018427387904) : numT (encN n ++ r) bad = (n, r, bad) := by
  unfold numT; rw [numOf_enc n r h]
theorem rdSt_shift (rest : List UInt8) (bad : Bool) (k : Nat) : rdSt rest bad (k + 1) = rdSt (numT rest bad).2.1 (numT rest bad).2.2 k := by
  induction k with
  | zero => rfl
  | succ k ih => rw [rdSt, ih]; rfl
theorem rdVal_shift (rest : List UInt8) (bad : Bool) (k : Nat) : rdVal rest bad (k + 1) = rdVal (numT rest bad).2.1 (numT rest bad).2.2 k := by
  unfold rdVal; rw [rdSt_shift]
theorem rdSt_enc (n : Nat) (r : List UInt8) (bad : Bool) (k : Nat) (h : n ≤ 4611686018427387904) : rdSt (encN n ++ r) bad (k + 1) = rdSt r bad k := by rw [rdSt_shift, numT_enc n r bad h]
theorem rdVal_enc (n : Nat) (r : List UInt8) (bad : Bool) (k : Nat) (h : n ≤ 4611686018427387904) : rdVal (encN n ++ r) bad (k + 1) = rdVal r bad k := by rw [rdVal_shift, numT_enc n r bad h]
theorem rdVal_enc0 (n : Nat) (r : List UInt8) (bad : Bool) (h : n ≤ 4611686018427387904) : rdVal (encN n ++ r) bad 0 = n := by unfold rdVal; simp only [rdSt]; rw [numT_enc n r bad h]
end Go.Proofs.Ythlcmjgdilebeaa

namespace Go.Proofs.Ythlcmjgdilebeaa
open Go.RowKit

/-- What is read of a request, part by part; what is left behind it. -/
structure Dq where
  k : Nat
  c : Nat
  s : Nat
  key : List UInt8
  who : List UInt8
  tkey : List UInt8
  twho : List UInt8
  i : Nat
  n : Nat
  p : Nat
  b : Nat
  d : Nat
  rest : List UInt8
  bad : Bool
theorem clampN_nat {n : Nat} (h : n ≤ 4611686018427387904) : clampN (n : Int) = n := by unfold clampN; omega
end Go.Proofs.Ythlcmjgdilebeaa

namespace Go.Proofs.Ythlcmjgdilebeaa
open Go.RowKit

structure Rp where
  err : Int
  id : Int
  i : It
def mayR (r : Rp) : Bool := decide (0 ≤ r.err ∧ r.err ≤ 19 ∧ 0 ≤ r.id ∧ r.id ≤ 1099511627776) && isI r.i
def encItB (i : It) : List UInt8 := encs [i.a, i.b, i.c, i.d]
def encP (r : Rp) : List UInt8 := encs [r.err, r.id] ++ encItB r.i
theorem encP_len (r : Rp) : (encs [r.err, r.id]).length ≤ 20 ∧ (encItB r.i).length ≤ 40 := by
  have h1 := encs_length [r.err, r.id]
  have h2 := encs_length [r.i.a, r.i.b, r.i.c, r.i.d]
  simp only [encItB, List.length_cons, List.length_nil] at h1 h2 ⊢
  omega
def zRp : Rp := ⟨0, 0, ⟨0, 0, 0, 0⟩⟩
end Go.Proofs.Ythlcmjgdilebeaa

namespace Go.Proofs.Ythlcmjgdilebeaa
open Go.RowKit
set_option maxHeartbeats 1000000 in
theorem purse_is (i : It) (w : World) :
    Calls Try.prog 90 #[.agg #[.int .i64 i.a, .int .i64 i.b, .int .i64 i.c, .int .i64 i.d]] w fun e w' => e = .returned (.bool (isI i)) ∧ Below w.heap.size w w' := by
  have i0 : ∀ w, (Instr.index 30 (.agg #[.int .i64 i.a, .int .i64 i.b, .int .i64 i.c, .int .i64 i.d]) (.int .i64 0)).run Try.prog w = .ok (.int .i64 i.a) w := fun _ => by kernel_rfl
  have i1 : ∀ w, (Instr.index 30 (.agg #[.int .i64 i.a, .int .i64 i.b, .int .i64 i.c, .int .i64 i.d]) (.int .i64 1)).run Try.prog w = .ok (.int .i64 i.b) w := fun _ => by kernel_rfl
  have i2 : ∀ w, (Instr.index 30 (.agg #[.int .i64 i.a, .int .i64 i.b, .int .i64 i.c, .int .i64 i.d]) (.int .i64 2)).run Try.prog w = .ok (.int .i64 i.c) w := fun _ => by kernel_rfl
  have i3 : ∀ w, (Instr.index 30 (.agg #[.int .i64 i.a, .int .i64 i.b, .int .i64 i.c, .int .i64 i.d]) (.int .i64 3)).run Try.prog w = .ok (.int .i64 i.d) w := fun _ => by kernel_rfl
  go_enter Try.func90, Try.ntmps90
  go_wp2_with fail
  (refine wp_loop_rounds 5 ?_; (repeat any_goals (rw [rounds_succ]; go_wp2_with fail)))
  all_goals (go_ret; refine ⟨?_, bg⟩; first | (rw [(isI_false i).2 (by omega)]; rfl) | (rw [(isI_iff i).2 (by omega)]; rfl))
set_option maxHeartbeats 1000000 in
theorem satrapyref8_is (i : It) (w : World) :
    Calls Try.prog 80 #[.agg #[.int .i64 i.a, .int .i64 i.b, .int .i64 i.c, .int .i64 i.d]] w fun e w' => e = .returned (.bool (isI i)) ∧ Below w.heap.size w w' := by
  have i0 : ∀ w, (Instr.index 30 (.agg #[.int .i64 i.a, .int .i64 i.b, .int .i64 i.c, .int .i64 i.d]) (.int .i64 0)).run Try.prog w = .ok (.int .i64 i.a) w := fun _ => by kernel_rfl
  have i1 : ∀ w, (Instr.index 30 (.agg #[.int .i64 i.a, .int .i64 i.b, .int .i64 i.c, .int .i64 i.d]) (.int .i64 1)).run Try.prog w = .ok (.int .i64 i.b) w := fun _ => by kernel_rfl
  have i2 : ∀ w, (Instr.index 30 (.agg #[.int .i64 i.a, .int .i64 i.b, .int .i64 i.c, .int .i64 i.d]) (.int .i64 2)).run Try.prog w = .ok (.int .i64 i.c) w := fun _ => by kernel_rfl
  have i3 : ∀ w, (Instr.index 30 (.agg #[.int .i64 i.a, .int .i64 i.b, .int .i64 i.c, .int .i64 i.d]) (.int .i64 3)).run Try.prog w = .ok (.int .i64 i.d) w := fun _ => by kernel_rfl
  go_enter Try.func80, Try.ntmps80
  go_wp2_with fail
  (refine wp_loop_rounds 5 ?_; (repeat any_goals (rw [rounds_succ]; go_wp2_with fail)))
  all_goals (go_ret; refine ⟨?_, bg⟩; first | (rw [(isI_false i).2 (by omega)]; rfl) | (rw [(isI_iff i).2 (by omega)]; rfl))
end Go.Proofs.Ythlcmjgdilebeaa

namespace Go.Proofs.Ythlcmjgdilebeaa
open Go.RowKit
set_option maxRecDepth 20000

theorem St.cellsN {W w : World} {L : List Th} (h : St W w L) (i : Nat) {b : Nat} {cur : Array Value} {t : TypeId} (hi : L[i]? = some (thObj b (.cells cur t (0, 0)))) : b < w.heap.size ∧ (∀ j, w.cell? ⟨b, j, none⟩ = cur[j]?) ∧ ∀ j, w.frozen? ⟨b, j, none⟩ = false := h.cells (List.mem_of_getElem? hi)
theorem etaN (t : Nat × List UInt8 × Bool) : t = (t.1, t.2.1, t.2.2) := rfl
theorem rd_step (l : List UInt8) (b : Bool) (k j : Nat) (hj : j = k + 1) : numT (rdSt l b k).1 (rdSt l b k).2 = (rdVal l b k, (rdSt l b j).1, (rdSt l b j).2) := by subst hj; exact etaN _
/-- A slice's bytes as a string. -/
theorem conv_str {w : World} {ao : Option Addr} {l : List UInt8} (h : BAt w ao l) (c : Nat) : (convert 38 9 (.slice ao l.length c)).run Try.prog w = .ok (.string ⟨l.toArray⟩) w := by
  by_cases hp : 0 < l.length
  · obtain ⟨b, off, rfl, -, hr⟩ := h hp
    have := run_convert_bytes_arg (P := Try.prog) w 38 5 Try.underlying38 Try.underlying5 b off l.length c (l.map fun c => (c.toNat : Int)) (by simp) (fun i hi => by
      rw [hr i hi]; simp [List.getD, hi]) 9 Try.underlying9
    rw [this]
    congr 2
    simp [strOfNums, Function.comp_def]
  · have : l = [] := List.length_eq_zero_iff.1 (by omega)
    subst this
    exact run_convert_bytes_zero w 38 5 Try.underlying38 Try.underlying5 ao c 9 Try.underlying9
end Go.Proofs.Ythlcmjgdilebeaa
