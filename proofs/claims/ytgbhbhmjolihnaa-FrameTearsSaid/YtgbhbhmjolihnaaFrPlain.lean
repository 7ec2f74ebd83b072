/- Records in plain Lean: a number in four bytes, a record, what bytes begin with, all records from the beginning on. -/
import Derived.Test.YtgbhbhmjolihnaaSumPlain
namespace Go.Proofs.Ytgbhbhmjolihnaa

def fourB (n : Nat) : List UInt8 := [UInt8.ofNat n, UInt8.ofNat (n / 256), UInt8.ofNat (n / 65536), UInt8.ofNat (n / 16777216)]
def unFour : List UInt8 → Nat
  | a :: b :: c :: d :: _ => a.toNat + b.toNat * 256 + c.toNat * 65536 + d.toNat * 16777216
  | _ => 0
theorem fourB_length (n : Nat) : (fourB n).length = 4 := rfl
theorem unFour_lt (l : List UInt8) : unFour l < 4294967296 := by
  match l with
  | a :: b :: c :: d :: _ => have := a.toNat_lt; have := b.toNat_lt; have := c.toNat_lt; have := d.toNat_lt; simp only [unFour]; omega
  | [] | [_] | [_, _] | [_, _, _] => simp [unFour]
theorem unFour_four (n : Nat) (hn : n < 4294967296) (r : List UInt8) : unFour (fourB n ++ r) = n := by
  simp only [fourB, List.cons_append, List.nil_append, unFour, UInt8.toNat_ofNat']
  omega
theorem four_unFour {l : List UInt8} (h : 4 ≤ l.length) : fourB (unFour l) = l.take 4 := by
  match l, h with
  | a :: b :: c :: d :: r, _ =>
    have ha := a.toNat_lt; have hb := b.toNat_lt; have hc := c.toNat_lt; have hd := d.toNat_lt
    simp only [fourB, unFour, List.take_succ_cons, List.take_zero, List.cons.injEq, and_true]
    refine ⟨?_, ?_, ?_, ?_⟩ <;> (apply UInt8.toNat_inj.1; rw [UInt8.toNat_ofNat']; omega)
theorem sumOf_lt (l : List UInt8) : sumOf l < 4294967296 := by
  unfold sumOf
  exact Nat.xor_lt_two_pow (n := 32) (by omega) (by have := crcOf_lt l (u := 4294967295) (by omega); omega)
/-- The head of a record of so many bytes. -/
def headB (n : Nat) : List UInt8 := fourB n ++ fourB (sumOf (fourB n))
theorem headB_length (n : Nat) : (headB n).length = 8 := rfl
def frameB (p : List UInt8) : List UInt8 := (headB p.length ++ p) ++ fourB (sumOf (headB p.length ++ p))
theorem frameB_length (p : List UInt8) : (frameB p).length = p.length + 12 := by
  simp only [frameB, List.length_append, headB_length, fourB_length]; omega
/-- What bytes begin with: what the record holds, its length, and how it is refused. -/
def decB (l : List UInt8) : List UInt8 × Nat × Nat :=
  if l.length < 8 then ([], 0, 2) else if l.take 8 ≠ headB (unFour l) then ([], 0, 4) else if 1048576 < unFour l then ([], 0, 5)
  else if l.length < 12 + unFour l then ([], 0, 2) else if unFour (l.drop (8 + unFour l)) ≠ sumOf (l.take (8 + unFour l)) then ([], 0, 4)
  else ((l.drop 8).take (unFour l), 12 + unFour l, 0)
/-- The head's check, as the document has it. -/
theorem head_check {l : List UInt8} (h : 8 ≤ l.length) : l.take 8 = headB (unFour l) ↔ unFour (l.drop 4) = sumOf (l.take 4) := by
  have e8 : l.take 8 = l.take 4 ++ (l.drop 4).take 4 := by rw [← List.take_add]
  have h4 := four_unFour (l := l) (by omega)
  have h4' := four_unFour (l := l.drop 4) (by rw [List.length_drop]; omega)
  unfold headB
  rw [h4, e8, List.append_cancel_left_eq, ← h4']
  constructor
  · intro e
    have := congrArg unFour e
    have a := unFour_four (unFour (l.drop 4)) (unFour_lt _) []
    have b := unFour_four (sumOf (l.take 4)) (sumOf_lt _) []
    rw [List.append_nil] at a b
    rw [a, b] at this
    exact this
  · intro e; rw [e]
theorem dec_frame (p more : List UInt8) (hp : p.length ≤ 1048576) : decB (frameB p ++ more) = (p, p.length + 12, 0) := by
  have hu : unFour (frameB p ++ more) = p.length := by
    simp only [frameB, headB, List.append_assoc]
    exact unFour_four _ (by omega) _
  have hl : (frameB p ++ more).length = p.length + 12 + more.length := by rw [List.length_append, frameB_length]
  have hh : (frameB p ++ more).take 8 = headB p.length := by
    simp only [frameB, List.append_assoc]
    rw [List.take_append_of_le_length (by rw [headB_length]; omega), List.take_of_length_le (by rw [headB_length]; omega)]
  have hw : (frameB p ++ more).take (8 + p.length) = headB p.length ++ p := by
    unfold frameB
    rw [List.append_assoc, List.take_append_of_le_length (by rw [List.length_append, headB_length]; omega), List.take_of_length_le (by rw [List.length_append, headB_length]; omega)]
  have hd : (frameB p ++ more).drop (8 + p.length) = fourB (sumOf (headB p.length ++ p)) ++ more := by
    unfold frameB
    rw [List.append_assoc]
    exact List.drop_left' (by rw [List.length_append, headB_length])
  have hb : ((frameB p ++ more).drop 8).take p.length = p := by
    have : (frameB p ++ more).drop 8 = p ++ (fourB (sumOf (headB p.length ++ p)) ++ more) := by
      simp only [frameB, List.append_assoc]
      exact List.drop_left' (headB_length _)
    rw [this]
    exact List.take_left' rfl
  unfold decB
  rw [hu, hl, hh, hw, hd, hb, unFour_four _ (sumOf_lt _)]
  rw [if_neg (by omega), if_neg (by simp), if_neg (by omega), if_neg (by omega), if_neg (by simp), Nat.add_comm 12]
theorem dec_err {l : List UInt8} (h : (decB l).2.2 ≠ 0) : (decB l).1 = [] ∧ (decB l).2.1 = 0 := by
  unfold decB at h ⊢
  repeat' split
  all_goals first | exact ⟨rfl, rfl⟩ | skip
  simp_all
theorem dec_ok {l : List UInt8} (h : (decB l).2.2 = 0) : (decB l).2.1 ≤ l.length ∧ (decB l).1.length + 12 = (decB l).2.1 := by
  unfold decB at h ⊢
  by_cases h1 : l.length < 8
  · rw [if_pos h1] at h; cases h
  rw [if_neg h1] at h ⊢
  by_cases h2 : l.take 8 ≠ headB (unFour l)
  · rw [if_pos h2] at h; cases h
  rw [if_neg h2] at h ⊢
  by_cases h3 : 1048576 < unFour l
  · rw [if_pos h3] at h; cases h
  rw [if_neg h3] at h ⊢
  by_cases h4 : l.length < 12 + unFour l
  · rw [if_pos h4] at h; cases h
  rw [if_neg h4] at h ⊢
  by_cases h5 : unFour (l.drop (8 + unFour l)) ≠ sumOf (l.take (8 + unFour l))
  · rw [if_pos h5] at h; cases h
  rw [if_neg h5]
  simp only [List.length_take, List.length_drop]
  omega
/-- All records from the beginning on. -/
def scanF : Nat → List UInt8 → List (List UInt8) × Nat
  | 0, _ => ([], 0)
  | f + 1, l => if l = [] ∨ (decB l).2.2 ≠ 0 then ([], 0) else ((decB l).1 :: (scanF f (l.drop (decB l).2.1)).1, (decB l).2.1 + (scanF f (l.drop (decB l).2.1)).2)
def scanB (l : List UInt8) : List (List UInt8) × Nat := scanF l.length l
theorem scanF_more : ∀ (f g : Nat) (l : List UInt8), l.length ≤ f → l.length ≤ g → scanF f l = scanF g l
  | 0, 0, _, _, _ => rfl
  | 0, g + 1, l, h, _ => by
    have : l = [] := List.length_eq_zero_iff.1 (by omega)
    subst this
    simp [scanF]
  | f + 1, 0, l, _, h => by
    have : l = [] := List.length_eq_zero_iff.1 (by omega)
    subst this
    simp [scanF]
  | f + 1, g + 1, l, h1, h2 => by
    simp only [scanF]
    by_cases h : l = [] ∨ (decB l).2.2 ≠ 0
    · rw [if_pos h, if_pos h]
    · rw [if_neg h, if_neg h]
      have hd : 12 ≤ (decB l).2.1 := by
        have := dec_ok (l := l) (Classical.byContradiction fun e => h (.inr e))
        omega
      rw [scanF_more f g (l.drop (decB l).2.1) (by rw [List.length_drop]; omega) (by rw [List.length_drop]; omega)]
theorem scanB_stop {l : List UInt8} (h : l = [] ∨ (decB l).2.2 ≠ 0) : scanB l = ([], 0) := by
  unfold scanB
  cases hl : l.length with
  | zero => rfl
  | succ n => simp only [scanF]; rw [if_pos h]
theorem scanB_next {l : List UInt8} (h : (decB l).2.2 = 0) : scanB l = ((decB l).1 :: (scanB (l.drop (decB l).2.1)).1, (decB l).2.1 + (scanB (l.drop (decB l).2.1)).2) := by
  obtain ⟨h1, h2⟩ := dec_ok h
  have hl : l ≠ [] := by rintro rfl; simp at h1; omega
  unfold scanB
  cases hn : l.length with
  | zero => exact absurd (List.length_eq_zero_iff.1 hn) hl
  | succ n =>
    simp only [scanF]
    rw [if_neg (by rintro (e | e); exact hl e; exact e h), scanF_more n (l.drop (decB l).2.1).length _ (by rw [List.length_drop]; omega) (Nat.le_refl _)]
end Go.Proofs.Ytgbhbhmjolihnaa
