/- Contracts of four and fromFour, of the code and of the document; of bytes.Equal. -/
import Derived.Test.YtgbhbhmjolihnaaFrPlain
import Derived.Test.YtgbhbhmjolihnaaHelp
import Derived.Laws.BytesArg
import Derived.Shelf.Bytes.SlSmallAll
namespace Go.Proofs.Ytgbhbhmjolihnaa
open Go.RowKit

/-- The post of a call that hands back so many bytes in a new block. -/
def Fresh4 (w : World) (l : List UInt8) (e : Ending) (w' : World) : Prop := e = .returned (.slice (some ⟨w.heap.size, 0, none⟩) 4 4) ∧ OwnB w' w.heap.size (some ⟨w.heap.size, 0, none⟩) 4 l ∧ Below w.heap.size w w'
theorem bits_or_u32 (a b : Nat) (ha : a < 4294967296) (hb : b < 4294967296) : bits .or .u32 (a : Int) (b : Int) = ((a ||| b : Nat) : Int) := by
  have hx : a ||| b < 2 ^ 32 := Nat.or_lt_two_pow (by omega) (by omega)
  have h1 : (BitVec.ofInt 32 (a : Int)).toNat = a := by
    rw [BitVec.ofInt_natCast, BitVec.toNat_ofNat]; exact Nat.mod_eq_of_lt (by omega)
  have h2 : (BitVec.ofInt 32 (b : Int)).toNat = b := by
    rw [BitVec.ofInt_natCast, BitVec.toNat_ofNat]; exact Nat.mod_eq_of_lt (by omega)
  show IntKind.u32.wrap ((BitVec.ofInt 32 (a : Int) ||| BitVec.ofInt 32 (b : Int)).toNat : Int) = _
  rw [BitVec.toNat_or, h1, h2, wrap_u32]
  omega
/-- A digit laid on top of what is below it. -/
theorem or_top (k a b : Nat) (ha : a < 2 ^ k) (hk : b * 2 ^ k < 4294967296) (ha2 : a < 4294967296) : bits .or .u32 (a : Int) ((b : Int) * ((2 ^ k : Nat) : Int)) = ((a + b * 2 ^ k : Nat) : Int) := by
  rw [← Int.natCast_mul, bits_or_u32 _ _ ha2 hk]
  congr 1
  rw [Nat.mul_comm b, Nat.or_comm, ← Nat.two_pow_add_eq_or_of_lt ha, Nat.add_comm]
theorem four_or (a b c d : UInt8) : bits .or .u32 (bits .or .u32 (bits .or .u32 (a.toNat : Int) ((b.toNat : Int) * 256)) ((c.toNat : Int) * 65536)) ((d.toNat : Int) * 16777216) = ((a.toNat + b.toNat * 256 + c.toNat * 65536 + d.toNat * 16777216 : Nat) : Int) := by
  have ha := a.toNat_lt; have hb := b.toNat_lt; have hc := c.toNat_lt; have hd := d.toNat_lt
  have e1 := or_top 8 a.toNat b.toNat (by omega) (by omega) (by omega)
  have e2 := or_top 16 (a.toNat + b.toNat * 256) c.toNat (by omega) (by omega) (by omega)
  have e3 := or_top 24 (a.toNat + b.toNat * 256 + c.toNat * 65536) d.toNat (by omega) (by omega) (by omega)
  simp only [show ((2 ^ 8 : Nat) : Int) = 256 from rfl, show ((2 ^ 16 : Nat) : Int) = 65536 from rfl, show ((2 ^ 24 : Nat) : Int) = 16777216 from rfl, show (2 : Nat) ^ 8 = 256 from rfl, show (2 : Nat) ^ 16 = 65536 from rfl, show (2 : Nat) ^ 24 = 16777216 from rfl] at e1 e2 e3
  rw [e1, e2, e3]
theorem own_four {w : World} {n : Nat} (hn : n < 4294967296) : OwnB (w.alloc (.cells #[.int .u8 ((n : Int) % 256), .int .u8 ((n : Int) / 256 % 256), .int .u8 ((n : Int) / 65536 % 256), .int .u8 ((n : Int) / 16777216)] 5)) w.heap.size (some ⟨w.heap.size, 0, none⟩) 4 (fourB n) := by
  have := World.ownsRow_lit (base := w.heap.size) (size := 1) (e := 5) w #[.int .u8 ((n : Int) % 256), .int .u8 ((n : Int) / 256 % 256), .int .u8 ((n : Int) / 65536 % 256), .int .u8 ((n : Int) / 16777216)] 4 (Nat.le_refl _) (by unfold maxLen; omega) (by simp)
  unfold OwnB
  have e : bytV (fourB n) = (#[.int .u8 ((n : Int) % 256), .int .u8 ((n : Int) / 256 % 256), .int .u8 ((n : Int) / 65536 % 256), .int .u8 ((n : Int) / 16777216)] : Array Value).toList := by
    simp only [bytV, fourB, List.map_cons, List.map_nil, UInt8.toNat_ofNat', List.cons.injEq, Value.int.injEq, true_and, and_true]
    omega
  rw [e]
  exact this
/-- Two slices' bytes as strings. -/
theorem conv_bytes {w : World} {ao : Option Addr} {l : List UInt8} (h : BAt w ao l) (c : Nat) : (convert 22 9 (.slice ao l.length c)).run Try.prog w = .ok (.string ⟨l.toArray⟩) w := by
  by_cases hp : 0 < l.length
  · obtain ⟨b, off, rfl, -, hr⟩ := h hp
    have := run_convert_bytes_arg (P := Try.prog) w 22 5 Try.underlying22 Try.underlying5 b off l.length c (l.map fun c => (c.toNat : Int)) (by simp) (fun i hi => by
      rw [hr i hi]; simp [List.getD, hi]) 9 Try.underlying9
    rw [this]
    congr 2
    simp [strOfNums, Function.comp_def]
  · have : l = [] := List.length_eq_zero_iff.1 (by omega)
    subst this
    exact run_convert_bytes_zero w 22 5 Try.underlying22 Try.underlying5 ao c 9 Try.underlying9
theorem equal_any (ao bo : Option Addr) (ca cb : Nat) (a b : List UInt8) (w : World) (ha : BAt w ao a) (hb : BAt w bo b) :
    Calls Try.prog 27 #[.slice ao a.length ca, .slice bo b.length cb] w fun e w' => e = .returned (.bool (a == b)) ∧ w' = w := by
  have h1 := conv_bytes ha ca
  have h2 := conv_bytes hb cb
  clear ha hb
  go_enter Try.func27, Try.ntmps27
  go_wp2_with fail
  go_ret
  exact ⟨rfl, rfl⟩
set_option maxHeartbeats 1000000 in
theorem qframe.four_any (n : Nat) (w : World) (hn : n < 4294967296) : Calls Try.prog 24 #[.int .u32 n] w (Fresh4 w (fourB n)) := by
  have h0 : (0 : Int) ≤ n := by omega
  have h1 : (n : Int) < 4294967296 := by omega
  go_enter Try.func24, Try.ntmps24
  go_wp2_with fail
  go_ret
  exact ⟨rfl, own_four hn, (by repeat (first | with_reducible exact Below.refl _ _ | with_reducible assumption | with_reducible refine Below.drew ?_ | with_reducible refine below_drawn ?_ | with_reducible refine Below.alloc ?_ (by first | omega | (simp; done) | (simp; omega) | (simp at *; omega)) _ | with_reducible refine Below.setCell ?_ (by first | omega | (simp; done) | (simp; omega) | (simp at *; omega)) _ | with_reducible refine Below.trans ?_ (Below.mono (by assumption) (by first | omega | (simp; done) | (simp; omega) | (simp at *; omega)))))⟩
set_option maxHeartbeats 1000000 in
theorem qsatrapyref1.Four_any (n : Nat) (w : World) (hn : n < 4294967296) : Calls Try.prog 29 #[.int .u32 n] w (Fresh4 w (fourB n)) := by
  have h0 : (0 : Int) ≤ n := by omega
  have h1 : (n : Int) < 4294967296 := by omega
  go_enter Try.func29, Try.ntmps29
  go_wp2_with fail
  go_ret
  exact ⟨rfl, own_four hn, (by repeat (first | with_reducible exact Below.refl _ _ | with_reducible assumption | with_reducible refine Below.drew ?_ | with_reducible refine below_drawn ?_ | with_reducible refine Below.alloc ?_ (by first | omega | (simp; done) | (simp; omega) | (simp at *; omega)) _ | with_reducible refine Below.setCell ?_ (by first | omega | (simp; done) | (simp; omega) | (simp at *; omega)) _ | with_reducible refine Below.trans ?_ (Below.mono (by assumption) (by first | omega | (simp; done) | (simp; omega) | (simp at *; omega)))))⟩
set_option maxHeartbeats 1000000 in
theorem qframe.fromFour_any (ao : Option Addr) (cap : Nat) (l : List UInt8) (w : World) (h : BAt w ao l) (hl : 4 ≤ l.length) :
    Calls Try.prog 26 #[.slice ao l.length cap] w fun e w' => e = .returned (.int .u32 (unFour l : Nat)) ∧ ∃ n, w' = w.drewN n := by
  obtain ⟨b, off, rfl, hb, hr⟩ := h (by omega)
  match l, hl with
  | c0 :: c1 :: c2 :: c3 :: r, _ =>
    have k0 := hr 0 (by simp)
    have k1 := hr 1 (by simp)
    have k2 := hr 2 (by simp)
    have k3 := hr 3 (by simp)
    simp only [List.getElem_cons_zero, List.getElem_cons_succ, Nat.add_zero] at k0 k1 k2 k3
    have b0 : (0 : Int) ≤ c0.toNat ∧ (c0.toNat : Int) < 256 := ⟨by omega, by have := c0.toNat_lt; omega⟩
    have b1 : (0 : Int) ≤ c1.toNat ∧ (c1.toNat : Int) < 256 := ⟨by omega, by have := c1.toNat_lt; omega⟩
    have b2 : (0 : Int) ≤ c2.toNat ∧ (c2.toNat : Int) < 256 := ⟨by omega, by have := c2.toNat_lt; omega⟩
    have b3 : (0 : Int) ≤ c3.toNat ∧ (c3.toNat : Int) < 256 := ⟨by omega, by have := c3.toNat_lt; omega⟩
    obtain ⟨m, hm⟩ : ∃ m, m = (c0 :: c1 :: c2 :: c3 :: r).length := ⟨_, rfl⟩
    have hm4 : 4 ≤ m := by rw [hm]; simp
    rw [← hm]
    have hm0 : (0 : Int) < m := by omega
    have hm1 : (1 : Int) < m := by omega
    have hm2 : (2 : Int) < m := by omega
    have hm3 : (3 : Int) < m := by omega
    clear hr h hm
    go_enter Try.func26, Try.ntmps26
    go_wp2_with fail
    go_quiet (fail)
    go_wp2_with fail
    go_ret
    refine ⟨?_, _, rfl⟩
    show Ending.returned (.int .u32 _) = _
    rw [four_or]
    rfl
set_option maxHeartbeats 1000000 in
theorem qsatrapyref1.FromFour_any (ao : Option Addr) (cap : Nat) (l : List UInt8) (w : World) (h : BAt w ao l) (hl : 4 ≤ l.length) :
    Calls Try.prog 31 #[.slice ao l.length cap] w fun e w' => e = .returned (.int .u32 (unFour l : Nat)) ∧ ∃ n, w' = w.drewN n := by
  obtain ⟨b, off, rfl, hb, hr⟩ := h (by omega)
  match l, hl with
  | c0 :: c1 :: c2 :: c3 :: r, _ =>
    have k0 := hr 0 (by simp)
    have k1 := hr 1 (by simp)
    have k2 := hr 2 (by simp)
    have k3 := hr 3 (by simp)
    simp only [List.getElem_cons_zero, List.getElem_cons_succ, Nat.add_zero] at k0 k1 k2 k3
    have b0 : (0 : Int) ≤ c0.toNat ∧ (c0.toNat : Int) < 256 := ⟨by omega, by have := c0.toNat_lt; omega⟩
    have b1 : (0 : Int) ≤ c1.toNat ∧ (c1.toNat : Int) < 256 := ⟨by omega, by have := c1.toNat_lt; omega⟩
    have b2 : (0 : Int) ≤ c2.toNat ∧ (c2.toNat : Int) < 256 := ⟨by omega, by have := c2.toNat_lt; omega⟩
    have b3 : (0 : Int) ≤ c3.toNat ∧ (c3.toNat : Int) < 256 := ⟨by omega, by have := c3.toNat_lt; omega⟩
    obtain ⟨m, hm⟩ : ∃ m, m = (c0 :: c1 :: c2 :: c3 :: r).length := ⟨_, rfl⟩
    have hm4 : 4 ≤ m := by rw [hm]; simp
    rw [← hm]
    have hm0 : (0 : Int) < m := by omega
    have hm1 : (1 : Int) < m := by omega
    have hm2 : (2 : Int) < m := by omega
    have hm3 : (3 : Int) < m := by omega
    clear hr h hm
    go_enter Try.func31, Try.ntmps31
    go_wp2_with fail
    go_quiet (fail)
    go_wp2_with fail
    go_ret
    refine ⟨?_, _, rfl⟩
    show Ending.returned (.int .u32 _) = _
    rw [four_or]
    rfl
end Go.Proofs.Ytgbhbhmjolihnaa
