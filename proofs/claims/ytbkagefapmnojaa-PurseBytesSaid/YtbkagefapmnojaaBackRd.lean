/- Numbers and rows read, and back: each has one form. -/
import Derived.Test.YtbkagefapmnojaaRdNums
import Derived.Test.YtbkagefapmnojaaBackNum
namespace Go.Proofs.Ytbkagefapmnojaa
open Go.RowKit

theorem numR_back : ∀ (l : List UInt8) (i u n : Nat) (r : List UInt8), numR i u l = some (n, r) → u < 128 ^ i → ∃ m, n = u + m * 128 ^ i ∧ l = encN m ++ r ∧ (0 < i → 0 < m)
  | [], i, u, n, r, h, _ => by simp [numR] at h
  | c :: t, i, u, n, r, h, hu => by
    have hle := (numR_left (c :: t) i u n r h).1
    rw [numR] at h
    split at h
    · cases h
    · rename_i hc
      split at h
      · rename_i hlt
        split at h
        · cases h
        · simp only [Option.some.injEq, Prod.mk.injEq] at h
          obtain ⟨rfl, rfl⟩ := h
          refine ⟨c.toNat, rfl, ?_, fun hi => ?_⟩
          · rw [encN_small hlt]; simp
          · rcases Nat.eq_zero_or_pos c.toNat with h0 | h0
            · exact absurd (.inr ⟨hi, UInt8.toNat_inj.1 (by simpa using h0)⟩) hc
            · exact h0
      · rename_i hge
        have hu2 := digit_lt i u (c.toNat % 128) hu (Nat.mod_lt _ (by omega))
        obtain ⟨m, hn, ht, hm⟩ := numR_back t (i + 1) _ n r h hu2
        have hm := hm (by omega)
        have hlt := c.toNat_lt
        have hn2 : n = u + (c.toNat % 128 + 128 * m) * 128 ^ i := by
          rw [hn, Nat.pow_succ, Nat.add_mul, ← Nat.add_assoc]
          congr 1
          generalize 128 ^ i = q
          ac_rfl
        refine ⟨c.toNat % 128 + 128 * m, hn2, ?_, fun _ => by omega⟩
        have hbig : ¬ (c.toNat % 128 + 128 * m < 128) := by omega
        have hp : 0 < 128 ^ i := Nat.pow_pos (by omega)
        have hsz : c.toNat % 128 + 128 * m ≤ 4611686018427387904 := by
          have := Nat.le_mul_of_pos_right (c.toNat % 128 + 128 * m) hp
          omega
        rw [encN_big hbig hsz, show (c.toNat % 128 + 128 * m) % 128 + 128 = c.toNat by omega, show (c.toNat % 128 + 128 * m) / 128 = m by omega, ht]
        simp
theorem numT_back {rest : List UInt8} {bad : Bool} (h : (numT rest bad).2.2 = false) : bad = false ∧ rest = encN (numT rest bad).1 ++ (numT rest bad).2.1 := by
  unfold numT at h ⊢
  cases ho : numOf rest with
  | none => rw [ho] at h; simp at h
  | some o =>
    obtain ⟨n, r⟩ := o
    rw [ho] at h
    simp only at h ⊢
    obtain ⟨m, hn, hl, -⟩ := numR_back rest 0 0 n r ho (by simp)
    obtain rfl : n = m := by simpa using hn
    exact ⟨h, hl⟩
theorem tookOf_back {rest : List UInt8} {bad : Bool} (h : (tookOf rest bad).2.2 = false) : bad = false ∧ rest = encRow (tookOf rest bad).1 ++ (tookOf rest bad).2.1 := by
  unfold tookOf bytesOf at h ⊢
  cases ho : numOf rest with
  | none => rw [ho] at h; simp at h
  | some o =>
    obtain ⟨n, r⟩ := o
    rw [ho] at h
    obtain ⟨m, hn, hl, -⟩ := numR_back rest 0 0 n r ho (by simp)
    obtain rfl : n = m := by simpa using hn
    by_cases hc : n ≤ r.length
    · simp only [hc, if_true] at h ⊢
      refine ⟨h, ?_⟩
      unfold encRow
      rw [List.length_take, Nat.min_eq_left hc, List.append_assoc, List.take_append_drop]
      exact hl
    · simp only [hc, if_false] at h
      cases h
theorem rdSt_back {rest : List UInt8} {bad : Bool} {k : Nat} (h : (rdSt rest bad (k + 1)).2 = false) : (rdSt rest bad k).2 = false ∧ (rdSt rest bad k).1 = encN (rdVal rest bad k) ++ (rdSt rest bad (k + 1)).1 := numT_back h
theorem rdVal_le (rest : List UInt8) (bad : Bool) (k : Nat) : rdVal rest bad k ≤ 4611686018427387904 := (numT_le _ _).2
theorem numT_enc (n : Nat) (r : List UInt8) (bad : Bool) (h : n ≤ 4611686018427387904) : numT (encN n ++ r) bad = (n, r, bad) := by
  unfold numT; rw [numOf_enc n r h]
theorem rdSt_shift (rest : List UInt8) (bad : Bool) (k : Nat) : rdSt rest bad (k + 1) = rdSt (numT rest bad).2.1 (numT rest bad).2.2 k := by
  induction k with
  | zero => rfl
  | succ k ih => rw [rdSt, ih]; rfl
theorem rdVal_shift (rest : List UInt8) (bad : Bool) (k : Nat) : rdVal rest bad (k + 1) = rdVal (numT rest bad).2.1 (numT rest bad).2.2 k := by
  unfold rdVal; rw [rdSt_shift]
theorem rdSt_enc (n : Nat) (r : List UInt8) (bad : Bool) (k : Nat) (h : n ≤ 4611686018427387904) : rdSt (encN n ++ r) bad (k + 1) = rdSt r bad k := by rw [rdSt_shift, numT_enc n r bad h]
theorem rdVal_enc (n : Nat) (r : List UInt8) (bad : Bool) (k : Nat) (h : n ≤ 4611686018427387904) : rdVal (encN n ++ r) bad (k + 1) = rdVal r bad k := by rw [rdVal_shift, numT_enc n r bad h]
theorem rdVal_enc0 (n : Nat) (r : List UInt8) (bad : Bool) (h : n ≤ 4611686018427387904) : rdVal (encN n ++ r) bad 0 = n := by unfold rdVal; simp only [rdSt]; rw [numT_enc n r bad h]
end Go.Proofs.Ytbkagefapmnojaa
