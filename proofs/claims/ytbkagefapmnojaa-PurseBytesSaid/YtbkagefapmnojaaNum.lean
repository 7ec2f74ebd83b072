/- Numbers as bytes, in plain Lean. -/
import GoSem.Op.String
namespace Go.Proofs.Ytbkagefapmnojaa

def encF : Nat → Nat → List UInt8
  | 0, n => [UInt8.ofNat n]
  | f + 1, n => if n < 128 then [UInt8.ofNat n] else UInt8.ofNat (n % 128 + 128) :: encF f (n / 128)
def encN (n : Nat) : List UInt8 := encF 9 n
def clampN (v : Int) : Nat := (max 0 (min v 4611686018427387904)).toNat
theorem clampN_le (v : Int) : clampN v ≤ 4611686018427387904 := by unfold clampN; omega
theorem clampN_eq (v : Int) : max 0 (min v 4611686018427387904) = (clampN v : Int) := by unfold clampN; omega
def encs (vs : List Int) : List UInt8 := vs.flatMap fun v => encN (clampN v)
theorem encF_same : ∀ (f g n : Nat), n < 128 ^ (f + 1) → n < 128 ^ (g + 1) → encF f n = encF g n
  | 0, 0, _, _, _ => rfl
  | 0, g + 1, n, h, _ => by have h : n < 128 := by simpa using h
                            simp [encF, h]
  | f + 1, 0, n, _, h => by have h : n < 128 := by simpa using h
                            simp [encF, h]
  | f + 1, g + 1, n, h, k => by
    simp only [encF]
    split
    · rfl
    · rw [encF_same f g (n / 128) (by rw [Nat.div_lt_iff_lt_mul (by omega)]; rwa [Nat.pow_succ] at h) (by rw [Nat.div_lt_iff_lt_mul (by omega)]; rwa [Nat.pow_succ] at k)]
theorem encN_small {n : Nat} (h : n < 128) : encN n = [UInt8.ofNat n] := by simp [encN, encF, h]
theorem encN_big {n : Nat} (h : ¬ n < 128) (hn : n ≤ 4611686018427387904) : encN n = UInt8.ofNat (n % 128 + 128) :: encN (n / 128) := by
  unfold encN
  rw [show encF 9 n = UInt8.ofNat (n % 128 + 128) :: encF 8 (n / 128) from by simp [encF, h]]
  rw [encF_same 8 9 (n / 128) (by have : (128 : Nat) ^ (8 + 1) = 9223372036854775808 := by decide
                                  omega) (by have : (128 : Nat) ^ (9 + 1) = 1180591620717411303424 := by decide
                                             omega)]
theorem encF_length : ∀ (f n : Nat), (encF f n).length ≤ f + 1 ∧ 0 < (encF f n).length
  | 0, _ => by simp [encF]
  | f + 1, n => by
    simp only [encF]
    split
    · simp
    · have := encF_length f (n / 128); simp; omega
theorem encN_length (n : Nat) : (encN n).length ≤ 10 ∧ 0 < (encN n).length := encF_length 9 n
theorem encs_length (vs : List Int) : (encs vs).length ≤ 10 * vs.length := by
  induction vs with
  | nil => simp [encs]
  | cons v r ih =>
    have := (encN_length (clampN v)).1
    simp only [encs, List.flatMap_cons, List.length_append, List.length_cons] at *
    omega
theorem encs_snoc (vs : List Int) (k : Nat) (h : k < vs.length) : encs (vs.take (k + 1)) = encs (vs.take k) ++ encN (clampN vs[k]) := by
  rw [List.take_succ_eq_append_getElem h]; simp only [encs, List.flatMap_append, List.flatMap_cons, List.flatMap_nil, List.append_nil]
end Go.Proofs.Ytbkagefapmnojaa
