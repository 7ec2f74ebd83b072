/- Plain laws of purses: no program in sight. -/
import GoSem.Op.String
namespace Go.Proofs.Ytbkagefapmnojaa

structure It where
  a : Int
  b : Int
  c : Int
  d : Int
def zeroI : It := ⟨0, 0, 0, 0⟩
theorem It.ext' {i j : It} (h1 : i.a = j.a) (h2 : i.b = j.b) (h3 : i.c = j.c) (h4 : i.d = j.d) : i = j := by cases i; cases j; simp_all
def okN (x : Int) : Prop := 0 ≤ x ∧ x ≤ 1152921504606846976
instance (x : Int) : Decidable (okN x) := by unfold okN; infer_instance
def isI (i : It) : Bool := decide (okN i.a ∧ okN i.b ∧ okN i.c ∧ okN i.d)
def lessI (i j : It) : Bool := decide (i.a < j.a ∨ i.b < j.b ∨ i.c < j.c ∨ i.d < j.d)
def addI (i j : It) : It := ⟨i.a + j.a, i.b + j.b, i.c + j.c, i.d + j.d⟩
def subI (i j : It) : It := ⟨i.a - j.a, i.b - j.b, i.c - j.c, i.d - j.d⟩
def subOk (i j : It) : Bool := isI i && (isI j && !lessI i j)
def selI (b : Bool) (i : It) : It := if b then i else zeroI
theorem isI_iff (i : It) : isI i = true ↔ (0 ≤ i.a ∧ i.a ≤ 1152921504606846976) ∧ (0 ≤ i.b ∧ i.b ≤ 1152921504606846976) ∧ (0 ≤ i.c ∧ i.c ≤ 1152921504606846976) ∧ (0 ≤ i.d ∧ i.d ≤ 1152921504606846976) := by unfold isI; rw [decide_eq_true_eq]; exact Iff.rfl
theorem isI_false (i : It) : isI i = false ↔ ¬ ((0 ≤ i.a ∧ i.a ≤ 1152921504606846976) ∧ (0 ≤ i.b ∧ i.b ≤ 1152921504606846976) ∧ (0 ≤ i.c ∧ i.c ≤ 1152921504606846976) ∧ (0 ≤ i.d ∧ i.d ≤ 1152921504606846976)) := by
  rw [← isI_iff]; simp
theorem lessI_iff (i j : It) : lessI i j = true ↔ i.a < j.a ∨ i.b < j.b ∨ i.c < j.c ∨ i.d < j.d := by simp [lessI]
theorem lessI_false (i j : It) : lessI i j = false ↔ j.a ≤ i.a ∧ j.b ≤ i.b ∧ j.c ≤ i.c ∧ j.d ≤ i.d := by simp [lessI]
theorem lessI_self (i : It) : lessI i i = false := by simp [lessI]
def oneOk (item n : Int) : Bool := decide (0 ≤ item ∧ item < 4 ∧ okN n)
def oneI (item n : Int) : It := ⟨if item = 0 then n else 0, if item = 1 then n else 0, if item = 2 then n else 0, if item = 3 then n else 0⟩
theorem oneOk_iff (item n : Int) : oneOk item n = true ↔ (item = 0 ∨ item = 1 ∨ item = 2 ∨ item = 3) ∧ 0 ≤ n ∧ n ≤ 1152921504606846976 := by
  unfold oneOk; rw [decide_eq_true_eq]; unfold okN; omega
theorem oneOk_false (item n : Int) : oneOk item n = false ↔ item < 0 ∨ 4 ≤ item ∨ n < 0 ∨ 1152921504606846976 < n := by
  unfold oneOk; rw [decide_eq_false_iff_not]; unfold okN; omega

/-- All together, from s on. -/
def addGo (s : It) : List It → Option It
  | [] => some s
  | i :: r => if isI i && isI (addI s i) then addGo (addI s i) r else none
def addL (l : List It) : Option It := addGo zeroI l
def outI (o : Option It) : It := o.getD zeroI
theorem addGo_step (s : It) (l : List It) (k : Nat) (h : k < l.length) : addGo s (l.drop k) = if isI l[k] && isI (addI s l[k]) then addGo (addI s l[k]) (l.drop (k + 1)) else none := by
  rw [List.drop_eq_getElem_cons h]; rfl
theorem addGo_end (s : It) (l : List It) (k : Nat) (h : l.length ≤ k) : addGo s (l.drop k) = some s := by
  rw [List.drop_eq_nil_of_le h]; rfl
theorem isI_zero : isI zeroI = true := by rw [isI_iff]; simp [zeroI]
theorem addI_ok {i j : It} (h : isI i = true) (k : isI j = true) (n : isI (addI i j) = false) : ¬ (i.a + j.a ≤ 1152921504606846976 ∧ i.b + j.b ≤ 1152921504606846976 ∧ i.c + j.c ≤ 1152921504606846976 ∧ i.d + j.d ≤ 1152921504606846976) := by
  rw [isI_iff] at h k; rw [isI_false] at n
  simp only [addI] at n
  omega
end Go.Proofs.Ytbkagefapmnojaa
