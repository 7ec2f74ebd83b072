/- Plain: what a Writer lays, a Reader takes. -/
import Derived.Test.YtbkagefapmnojaaRdBytes
import Derived.Test.YtbkagefapmnojaaWrRows
namespace Go.Proofs.Ytbkagefapmnojaa

theorem numR_enc : ∀ (m n i u : Nat) (r : List UInt8), n < m → i < 9 → (0 < i → 0 < n) → u + n * 128 ^ i ≤ 4611686018427387904 → numR i u (encN n ++ r) = some (u + n * 128 ^ i, r)
  | 0, _, _, _, _, h, _, _, _ => by omega
  | m + 1, n, i, u, r, h, hi, h0, hle => by
    have hp : 0 < 128 ^ i := Nat.pow_pos (by omega)
    by_cases h128 : n < 128
    · rw [encN_small h128]
      simp only [List.cons_append, List.nil_append, numR]
      have hc : (UInt8.ofNat n).toNat = n := by simp; omega
      rw [if_neg, hc, if_pos h128, if_neg (by omega)]
      rintro (h1 | ⟨h1, h2⟩)
      · omega
      · have := congrArg UInt8.toNat h2
        rw [hc, UInt8.toNat_zero] at this
        have := h0 h1
        omega
    · have hi8 : i < 8 := by
        apply Nat.lt_of_not_le
        intro h8
        have h1 : 128 ^ 8 ≤ 128 ^ i := Nat.pow_le_pow_right (by omega) h8
        have h2 : 128 * 128 ^ 8 ≤ n * 128 ^ i := Nat.mul_le_mul (by omega) h1
        have h3 : (128 : Nat) * 128 ^ 8 = 9223372036854775808 := by decide
        omega
      have hn62 : n ≤ 4611686018427387904 := by
        have : n * 1 ≤ n * 128 ^ i := Nat.mul_le_mul_left _ hp
        omega
      rw [encN_big h128 hn62]
      simp only [List.cons_append, numR]
      have hc : (UInt8.ofNat (n % 128 + 128)).toNat = n % 128 + 128 := by simp; omega
      have hsum : u + n % 128 * 128 ^ i + n / 128 * 128 ^ (i + 1) = u + n * 128 ^ i := by
        have h1 : n / 128 * 128 ^ (i + 1) = n / 128 * 128 * 128 ^ i := by rw [Nat.pow_succ, Nat.mul_assoc, Nat.mul_comm 128]
        have h2 : n % 128 * 128 ^ i + n / 128 * 128 * 128 ^ i = n * 128 ^ i := by
          rw [← Nat.add_mul]; congr 1; omega
        omega
      rw [if_neg, hc, if_neg (by omega), show (n % 128 + 128) % 128 = n % 128 from by omega, numR_enc m (n / 128) (i + 1) _ r (by omega) (by omega) (by omega) (by omega), hsum]
      rintro (h1 | ⟨h1, h2⟩)
      · omega
      · have := congrArg UInt8.toNat h2
        rw [hc, UInt8.toNat_zero] at this
        omega
theorem numOf_enc (n : Nat) (r : List UInt8) (h : n ≤ 4611686018427387904) : numOf (encN n ++ r) = some (n, r) := by
  have := numR_enc (n + 1) n 0 0 r (by omega) (by omega) (by omega) (by omega)
  simpa [numOf] using this
theorem bytesOf_enc (l r : List UInt8) (h : l.length ≤ 4611686018427387904) : bytesOf (encRow l ++ r) = some (l, r) := by
  unfold bytesOf encRow
  rw [List.append_assoc, numOf_enc _ _ h]
  simp
theorem tookOf_enc (l r : List UInt8) (bad : Bool) (h : l.length ≤ 4611686018427387904) : tookOf (encRow l ++ r) bad = (l, r, bad) := by
  unfold tookOf
  rw [bytesOf_enc l r h]
end Go.Proofs.Ytbkagefapmnojaa
