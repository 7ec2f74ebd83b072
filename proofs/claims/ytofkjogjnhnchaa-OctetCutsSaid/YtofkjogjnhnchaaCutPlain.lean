/- Plain: rows whose bytes are cut short. -/
import Derived.Test.YtofkjogjnhnchaaBackNum
namespace Go.Proofs.Ytofkjogjnhnchaa

theorem numR_cut : ∀ (m n i u c : Nat), n < m → n ≤ 4611686018427387904 → c < (encN n).length → numR i u ((encN n).take c) = none
  | 0, _, _, _, _, h, _, _ => by omega
  | m + 1, n, i, u, c, h, hn, hc => by
    cases c with
    | zero => rfl
    | succ c =>
      by_cases h128 : n < 128
      · rw [encN_small h128] at hc; simp at hc
      · rw [encN_big h128 hn] at hc ⊢
        have hc2 : (UInt8.ofNat (n % 128 + 128)).toNat = n % 128 + 128 := by simp; omega
        simp only [List.take_succ_cons, numR]
        split
        · rfl
        · rw [hc2, if_neg (by omega)]
          exact numR_cut m (n / 128) _ _ c (by omega) (by omega) (by simpa using hc)
theorem tookOf_cut (l r : List UInt8) (bad : Bool) (c : Nat) (hl : l.length ≤ 4611686018427387904) (hc : c < (encRow l).length) : tookOf ((encRow l ++ r).take c) bad = ([], [], true) := by
  have : bytesOf ((encRow l ++ r).take c) = none := by
    have hel : (encRow l).length = (encN l.length).length + l.length := by unfold encRow; rw [List.length_append]
    unfold bytesOf
    by_cases h1 : c < (encN l.length).length
    · have : (encRow l ++ r).take c = (encN l.length).take c := by
        unfold encRow
        rw [List.append_assoc, List.take_append_of_le_length (by omega)]
      rw [this, show numOf ((encN l.length).take c) = none from numR_cut (l.length + 1) l.length 0 0 c (by omega) hl h1]
    · have : (encRow l ++ r).take c = encN l.length ++ (l ++ r).take (c - (encN l.length).length) := by
        unfold encRow
        rw [List.append_assoc, List.take_append, List.take_of_length_le (by omega)]
      rw [this, numOf_enc _ _ hl]
      simp only
      rw [if_neg]
      rw [List.length_take]
      omega
  unfold tookOf
  rw [this]
theorem tookOf_nil (bad : Bool) : tookOf [] bad = ([], [], true) := rfl
/-- Where the first k rows end. -/
def endOf (L : List RowR) (k : Nat) : Nat := (encRows (L.take k)).length
def cutAt (L : List RowR) (c k : Nat) : List UInt8 × Bool := if endOf L k ≤ c then (((encRows L).take c).drop (endOf L k), false) else ([], true)
theorem endOf_succ (L : List RowR) (k : Nat) (h : k < L.length) : endOf L (k + 1) = endOf L k + (encRow L[k].bs).length := by
  unfold endOf
  rw [List.take_succ_eq_append_getElem h]
  simp only [encRows, List.flatMap_append, List.flatMap_cons, List.flatMap_nil, List.append_nil, List.length_append]
theorem encRows_split (L : List RowR) (k : Nat) : encRows L = encRows (L.take k) ++ encRows (L.drop k) := by
  unfold encRows; rw [← List.flatMap_append, List.take_append_drop]
theorem cut_drop (L : List RowR) (c k : Nat) (hk : endOf L k ≤ c) : ((encRows L).take c).drop (endOf L k) = (encRows (L.drop k)).take (c - endOf L k) := by
  rw [encRows_split L k]
  unfold endOf at *
  rw [List.take_append, List.take_of_length_le hk, List.drop_left]
/-- A row that is whole comes, and the rest is what is behind it. -/
theorem cut_yes (L : List RowR) (c k : Nat) (hk : k < L.length) (hl : L[k].bs.length ≤ 4611686018427387904) (h : endOf L (k + 1) ≤ c) : (cutAt L c k).2 = false ∧ tookOf (cutAt L c k).1 (cutAt L c k).2 = (L[k].bs, (cutAt L c (k + 1)).1, false) ∧ (cutAt L c (k + 1)).2 = false := by
  have hs := endOf_succ L k hk
  have h1 : endOf L k ≤ c := by omega
  unfold cutAt
  rw [if_pos h1, if_pos h]
  refine ⟨rfl, ?_, rfl⟩
  simp only
  rw [cut_drop L c k h1, cut_drop L c (k + 1) h, List.drop_eq_getElem_cons hk, encRows_cons, List.take_append, List.take_of_length_le (by omega), tookOf_enc _ _ _ hl]
  congr 2
  congr 1
  omega
/-- The first row that is not whole errs, and nothing comes behind it. -/
theorem cut_no (L : List RowR) (c k : Nat) (hk : k < L.length) (hl : L[k].bs.length ≤ 4611686018427387904) (h : ¬ endOf L (k + 1) ≤ c) : tookOf (cutAt L c k).1 (cutAt L c k).2 = ([], [], true) ∧ cutAt L c (k + 1) = ([], true) := by
  have hs := endOf_succ L k hk
  refine ⟨?_, by unfold cutAt; rw [if_neg h]⟩
  by_cases h1 : endOf L k ≤ c
  · unfold cutAt
    rw [if_pos h1]
    simp only
    rw [cut_drop L c k h1, List.drop_eq_getElem_cons hk, encRows_cons]
    exact tookOf_cut _ _ _ _ hl (by omega)
  · unfold cutAt
    rw [if_neg h1]
    rfl
theorem cutAt_le (L : List RowR) (c k : Nat) : (cutAt L c k).1.length ≤ (encRows L).length := by
  unfold cutAt
  split
  · simp only [List.length_drop, List.length_take]; omega
  · simp
end Go.Proofs.Ytofkjogjnhnchaa
