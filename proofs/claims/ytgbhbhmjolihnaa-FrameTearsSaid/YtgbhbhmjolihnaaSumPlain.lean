/- Plain: a byte that is another one has another sum. -/
import Derived.Test.YtgbhbhmjolihnaaSum
namespace Go.Proofs.Ytgbhbhmjolihnaa
open Go.RowKit

theorem xor_cancel_r {a b c : Nat} (h : a ^^^ c = b ^^^ c) : a = b := by
  have := congrArg (· ^^^ c) h
  simpa [Nat.xor_assoc, Nat.xor_self] using this
theorem xor_cancel_l {a b c : Nat} (h : c ^^^ a = c ^^^ b) : a = b := xor_cancel_r (c := c) (by rw [Nat.xor_comm a, Nat.xor_comm b]; exact h)
theorem crc1_inj {u v : Nat} (hu : u < 4294967296) (hv : v < 4294967296) (h : crc1 u = crc1 v) : u = v := by
  have top : ∀ x : Nat, x < 4294967296 → (crc1 x).testBit 31 = decide (x % 2 = 1) := by
    intro x hx
    unfold crc1
    rw [Nat.testBit_xor, Nat.testBit_lt_two_pow (show x / 2 < 2 ^ 31 by omega)]
    by_cases h1 : x % 2 = 1
    · rw [if_pos h1, decide_eq_true h1]; decide
    · rw [if_neg h1, decide_eq_false h1]; decide
  have h1 := top u hu
  rw [h, top v hv] at h1
  have hp : u % 2 = v % 2 := by
    rcases Nat.mod_two_eq_zero_or_one u with a | a <;> rcases Nat.mod_two_eq_zero_or_one v with b | b <;> simp [a, b] at h1 <;> omega
  unfold crc1 at h
  rw [hp] at h
  have := xor_cancel_r h
  omega
theorem crcN_inj {u v : Nat} (hu : u < 4294967296) (hv : v < 4294967296) : ∀ n, crcN n u = crcN n v → u = v
  | 0, h => h
  | n + 1, h => crcN_inj hu hv n (crc1_inj (crcN_lt hu n) (crcN_lt hv n) h)
theorem crcOf_inj : ∀ (l : List UInt8) {u v : Nat}, u < 4294967296 → v < 4294967296 → crcOf u l = crcOf v l → u = v
  | [], _, _, _, _, h => h
  | c :: r, u, v, hu, hv, h => by
    have h1 := crcOf_inj r (crcB_lt hu c) (crcB_lt hv c) h
    exact xor_cancel_r (crcN_inj (xor_lt hu c) (xor_lt hv c) 8 h1)
theorem sum_differs (l : List UInt8) (i : Nat) (hi : i < l.length) (c : UInt8) (hc : c ≠ l[i]) : sumOf (l.set i c) ≠ sumOf l := by
  intro h
  unfold sumOf at h
  have h1 := xor_cancel_l h
  rw [List.set_eq_take_append_cons_drop, if_pos hi] at h1
  conv at h1 => rhs; rw [← List.take_append_drop i l, List.drop_eq_getElem_cons hi]
  rw [crcOf_append, crcOf_append] at h1
  have hq := crcOf_lt (l.take i) (u := 4294967295) (by omega)
  have h2 := crcOf_inj (l.drop (i + 1)) (crcB_lt hq c) (crcB_lt hq l[i]) h1
  have h3 := crcN_inj (xor_lt hq c) (xor_lt hq l[i]) 8 h2
  exact hc (UInt8.toNat_inj.1 (xor_cancel_l h3))
theorem bits_xor_u8 (a b : Nat) (ha : a < 256) (hb : b < 256) : bits .xor .u8 (a : Int) (b : Int) = ((a ^^^ b : Nat) : Int) := by
  have hx : a ^^^ b < 2 ^ 8 := Nat.xor_lt_two_pow (by omega) (by omega)
  have h1 : (BitVec.ofInt 8 (a : Int)).toNat = a := by
    rw [BitVec.ofInt_natCast, BitVec.toNat_ofNat]; exact Nat.mod_eq_of_lt (by omega)
  have h2 : (BitVec.ofInt 8 (b : Int)).toNat = b := by
    rw [BitVec.ofInt_natCast, BitVec.toNat_ofNat]; exact Nat.mod_eq_of_lt (by omega)
  show IntKind.u8.wrap ((BitVec.ofInt 8 (a : Int) ^^^ BitVec.ofInt 8 (b : Int)).toNat : Int) = _
  rw [BitVec.toNat_xor, h1, h2, IntKind.wrap_u8]
  omega
theorem xor_byte (c d : UInt8) : bits .xor .u8 (c.toNat : Int) (d.toNat : Int) = (((c ^^^ d).toNat : Nat) : Int) := by
  rw [bits_xor_u8 _ _ c.toNat_lt d.toNat_lt, UInt8.toNat_xor]
theorem xor_other (c d : UInt8) (h : d ≠ 0) : c ^^^ d ≠ c := fun e => by
  have := congrArg UInt8.toNat e
  rw [UInt8.toNat_xor] at this
  have h2 : c.toNat ^^^ d.toNat = c.toNat ^^^ 0 := by rw [this, Nat.xor_zero]
  exact h (UInt8.toNat_inj.1 (xor_cancel_l h2))
end Go.Proofs.Ytgbhbhmjolihnaa
