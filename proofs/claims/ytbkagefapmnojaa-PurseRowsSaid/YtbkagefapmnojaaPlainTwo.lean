/- Plain laws of sums of purses: no program in sight. -/
import Derived.Test.YtbkagefapmnojaaPlain
namespace Go.Proofs.Ytbkagefapmnojaa
theorem addI_zero (i : It) : addI zeroI i = i := It.ext' (by simp [addI, zeroI]) (by simp [addI, zeroI]) (by simp [addI, zeroI]) (by simp [addI, zeroI])
theorem addI_comm (i j : It) : addI i j = addI j i := It.ext' (Int.add_comm _ _) (Int.add_comm _ _) (Int.add_comm _ _) (Int.add_comm _ _)
theorem addI_assoc (i j k : It) : addI (addI i j) k = addI i (addI j k) := It.ext' (Int.add_assoc _ _ _) (Int.add_assoc _ _ _) (Int.add_assoc _ _ _) (Int.add_assoc _ _ _)
theorem add_two (i j : It) : addL [i, j] = if isI i && (isI j && isI (addI i j)) then some (addI i j) else none := by
  simp only [addL, addGo, addI_zero]
  cases isI i <;> cases isI j <;> cases isI (addI i j) <;> simp
theorem add_swap (i j : It) : addL [j, i] = addL [i, j] := by
  rw [add_two, add_two, addI_comm j i]
  cases isI i <;> cases isI j <;> cases isI (addI i j) <;> simp
theorem sub_back {i j : It} (hi : isI i = true) (hj : isI j = true) (h : isI (addI i j) = true) : subOk (addI i j) j = true ∧ subI (addI i j) j = i ∧ lessI (addI i j) i = false := by
  have hi' := (isI_iff i).1 hi
  have hj' := (isI_iff j).1 hj
  have h1 : lessI (addI i j) j = false := by rw [lessI_false]; simp only [addI]; omega
  refine ⟨by simp [subOk, h, hj, h1], It.ext' (by simp only [subI, addI]; omega) (by simp only [subI, addI]; omega) (by simp only [subI, addI]; omega) (by simp only [subI, addI]; omega), ?_⟩
  rw [lessI_false]; simp only [addI]; omega
theorem isI_part {i j : It} (hi : isI i = true) (hj : isI j = true) (k : It) (hk : isI k = true) (h : isI (addI (addI i j) k) = true) : isI (addI i j) = true := by
  rw [isI_iff] at *; simp only [addI] at *; omega
theorem addGo_is {s t : It} {l : List It} (hs : isI s = true) (h : addGo s l = some t) : isI t = true := by
  induction l generalizing s with
  | nil => simp only [addGo, Option.some.injEq] at h; rw [← h]; exact hs
  | cons i r ih =>
    simp only [addGo] at h
    cases h1 : (isI i && isI (addI s i)) with
    | false => rw [h1] at h; simp at h
    | true => rw [h1] at h; simp only [if_true] at h; simp only [Bool.and_eq_true] at h1; exact ih h1.2 h
/-- From s on: as the sum of all, laid on s. -/
theorem addGo_from (s : It) (l : List It) (hs : isI s = true) : addGo s l = (addL l).bind fun y => if isI (addI s y) then some (addI s y) else none := by
  suffices h : ∀ (l : List It) (s u : It), isI s = true → isI u = true → addGo (addI s u) l = (if isI (addI s u) then (addGo u l).bind (fun y => if isI (addI s y) then some (addI s y) else none) else addGo (addI s u) l) by
    have := h l s zeroI hs isI_zero
    rw [addI_comm s zeroI, addI_zero, hs] at this
    simpa [addL] using this
  intro l
  induction l with
  | nil => intro s u hs hu; simp only [addGo, Option.bind_some]; split <;> simp_all
  | cons i r ih =>
    intro s u hs hu
    cases h : isI (addI s u) with
    | false => simp
    | true =>
      simp only [if_true, addGo]
      cases hi : isI i with
      | false => simp
      | true =>
        simp only [Bool.true_and]
        rw [addI_assoc s u i]
        cases hui : isI (addI u i) with
        | false =>
          have : isI (addI s (addI u i)) = false := by
            rw [isI_false] at *; rw [isI_iff] at hs hu hi; simp only [addI] at *; omega
          simp [this]
        | true =>
          simp only [if_true]
          cases hsui : isI (addI s (addI u i)) with
          | true => simp only [if_true]; rw [ih s (addI u i) hs hui, hsui]; simp
          | false =>
            simp only [Bool.false_eq_true, if_false]
            symm
            cases ho : addGo (addI u i) r with
            | none => rfl
            | some y =>
              have hy : ∀ (l : List It) (a b : It), addGo a l = some b → a.a ≤ b.a ∧ a.b ≤ b.b ∧ a.c ≤ b.c ∧ a.d ≤ b.d := by
                intro l
                induction l with
                | nil => intro a b h; simp only [addGo, Option.some.injEq] at h; subst h; omega
                | cons j r ih2 =>
                  intro a b h
                  simp only [addGo] at h
                  cases h1 : (isI j && isI (addI a j)) with
                  | false => rw [h1] at h; simp at h
                  | true =>
                    rw [h1] at h; simp only [if_true] at h
                    simp only [Bool.and_eq_true] at h1
                    have := ih2 _ _ h
                    have hj := (isI_iff j).1 h1.1
                    simp only [addI] at this; omega
              have hle := hy r _ _ ho
              have : isI (addI s y) = false := by
                rw [isI_false] at *; rw [isI_iff] at hs hu hi hui; simp only [addI] at *; omega
              simp [this]
theorem addGo_append (s : It) (a b : List It) : addGo s (a ++ b) = (addGo s a).bind fun t => addGo t b := by
  induction a generalizing s with
  | nil => rfl
  | cons i r ih =>
    simp only [List.cons_append, addGo]
    cases (isI i && isI (addI s i)) with
    | false => rfl
    | true => simp only [if_true]; exact ih _
theorem add_rows_none {a b : List It} (h : addL a = none ∨ addL b = none) : addL (a ++ b) = none := by
  show addGo zeroI (a ++ b) = none
  rw [addGo_append]
  cases ha : addGo zeroI a with
  | none => rfl
  | some x =>
    rcases h with h | h
    · rw [show addL a = addGo zeroI a from rfl, ha] at h; cases h
    · show addGo x b = none
      rw [addGo_from x b (addGo_is isI_zero ha), h]; rfl
theorem add_rows_some {a b : List It} {x y : It} (h : addL a = some x) (k : addL b = some y) : addL [x, y] = addL (a ++ b) := by
  have hx : isI x = true := addGo_is isI_zero h
  have hy : isI y = true := addGo_is isI_zero k
  show _ = addGo zeroI (a ++ b)
  rw [addGo_append, show addGo zeroI a = some x from h, add_two, hx, hy]
  show _ = addGo x b
  rw [addGo_from x b hx, k]
  simp
end Go.Proofs.Ytbkagefapmnojaa
