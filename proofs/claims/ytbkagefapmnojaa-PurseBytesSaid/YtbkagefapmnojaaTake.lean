/- A number taken from bytes, in plain Lean. -/
import Derived.Test.YtbkagefapmnojaaNum
import Derived.Laws.Bits64b
import Derived.Laws.Entries
namespace Go.Proofs.Ytbkagefapmnojaa

/-- From the i-th byte on, u being what came before: the number and what is left behind it. -/
def numR (i u : Nat) : List UInt8 → Option (Nat × List UInt8)
  | [] => none
  | c :: r => if 9 ≤ i ∨ (0 < i ∧ c = 0) then none else
    if c.toNat < 128 then (if 4611686018427387904 < u + c.toNat * 128 ^ i then none else some (u + c.toNat * 128 ^ i, r))
    else numR (i + 1) (u + (c.toNat % 128) * 128 ^ i) r
def numOf (l : List UInt8) : Option (Nat × List UInt8) := numR 0 0 l

theorem bits_seven_all : ∀ m : Fin 256, bits BinOp.and IntKind.u8 ((m.val : Nat) : Int) 127 = ((m.val % 128 : Nat) : Int) := by decide +kernel
theorem bits_seven (c : UInt8) : bits BinOp.and IntKind.u8 (c.toNat : Int) 127 = ((c.toNat % 128 : Nat) : Int) := bits_seven_all ⟨c.toNat, c.toNat_lt⟩
theorem pow_seven (i : Nat) : (2 : Nat) ^ (7 * i) = 128 ^ i := by rw [Nat.pow_mul]
/-- The digit that a byte lays on top. -/
theorem bits_digit (i u : Nat) (c : UInt8) (hi : i < 9) (hu : u < 128 ^ i) : bits BinOp.or IntKind.u64 (u : Int) (IntKind.u64.wrap ((c.toNat : Int) % 128 * 2 ^ (7 * i))) = ((u + c.toNat % 128 * 128 ^ i : Nat) : Int) := by
  have h9 : (128 : Nat) ^ i ≤ 128 ^ 8 := Nat.pow_le_pow_right (by omega) (by omega)
  have h8 : (128 : Nat) ^ 8 = 72057594037927936 := by decide
  obtain ⟨d, hde⟩ : ∃ d, d = c.toNat % 128 := ⟨_, rfl⟩
  have hd : d < 128 := by omega
  have hdm : d * 128 ^ i ≤ 127 * 72057594037927936 := Nat.mul_le_mul (by omega) (by omega)
  have e2 : (2 : Int) ^ (7 * i) = ((128 ^ i : Nat) : Int) := by rw [← pow_seven]; push_cast; rfl
  rw [← hde, show (c.toNat : Int) % 128 = (d : Int) from by omega, e2, ← Int.natCast_mul, IntKind.wrap_u64, Int.emod_eq_of_lt (by omega) (by omega), bits_or_u64_nat _ _ (by omega) (by omega)]
  congr 1
  rw [Nat.mul_comm d, ← pow_seven] at *
  rw [Nat.or_comm, ← Nat.two_pow_add_eq_or_of_lt hu, Nat.add_comm]
theorem digit_lt (i u d : Nat) (hu : u < 128 ^ i) (hd : d < 128) : u + d * 128 ^ i < 128 ^ (i + 1) := by
  have : d * 128 ^ i ≤ 127 * 128 ^ i := Nat.mul_le_mul_right _ (by omega)
  rw [Nat.pow_succ]; omega
theorem numR_left : ∀ (l : List UInt8) (i u : Nat) (n : Nat) (r : List UInt8), numR i u l = some (n, r) → n ≤ 4611686018427387904 ∧ ∃ k, 0 < k ∧ k ≤ l.length ∧ r = l.drop k
  | [], _, _, _, _, h => by simp [numR] at h
  | c :: t, i, u, n, r, h => by
    simp only [numR] at h
    split at h
    · simp at h
    · split at h
      · split at h
        · simp at h
        · simp only [Option.some.injEq, Prod.mk.injEq] at h
          obtain ⟨rfl, rfl⟩ := h
          exact ⟨by omega, 1, by omega, by simp, rfl⟩
      · obtain ⟨h1, k, hk, hl, e⟩ := numR_left t _ _ _ _ h
        exact ⟨h1, k + 1, by omega, by simp; omega, by rw [e]; rfl⟩
end Go.Proofs.Ytbkagefapmnojaa
