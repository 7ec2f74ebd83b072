/- The order of texts, byte by byte; plain laws of spans: no program in sight. -/
import GoSem.Op.String
import Derived.Lib.Strings
namespace Go.Proofs.Ytobnibdeimiinaa

theorem bl_irrefl (x : List UInt8) : Op.bytesLess x x = false := by
  induction x with
  | nil => rfl
  | cons a x ih => simp [Op.bytesLess, ih]
theorem bl_trans {x y z : List UInt8} (h : Op.bytesLess x y = true) (k : Op.bytesLess y z = true) : Op.bytesLess x z = true := by
  induction x generalizing y z with
  | nil =>
    cases y with
    | nil => simp [Op.bytesLess] at h
    | cons b y => cases z with
      | nil => simp [Op.bytesLess] at k
      | cons c z => simp [Op.bytesLess]
  | cons a x ih =>
    cases y with
    | nil => simp [Op.bytesLess] at h
    | cons b y => cases z with
      | nil => simp [Op.bytesLess] at k
      | cons c z =>
        simp only [Op.bytesLess, Bool.or_eq_true, decide_eq_true_eq, Bool.and_eq_true, beq_iff_eq] at h k ⊢
        rcases h with h | ⟨rfl, h⟩ <;> rcases k with k | ⟨rfl, k⟩
        · left; exact UInt8.lt_trans h k
        · left; exact h
        · left; exact k
        · right; exact ⟨rfl, ih h k⟩
theorem bl_tri {x y : List UInt8} (h : Op.bytesLess x y = false) (k : Op.bytesLess y x = false) : x = y := by
  induction x generalizing y with
  | nil => cases y with
    | nil => rfl
    | cons b y => simp [Op.bytesLess] at h
  | cons a x ih => cases y with
    | nil => simp [Op.bytesLess] at k
    | cons b y =>
      simp only [Op.bytesLess, Bool.or_eq_false_iff, decide_eq_false_iff_not, Bool.and_eq_false_iff, beq_eq_false_iff_ne] at h k
      have e : a = b := by
        have h1 := h.1; have h2 := k.1
        exact UInt8.le_antisymm (UInt8.not_lt.1 h2) (UInt8.not_lt.1 h1)
      subst e
      have := ih (y := y) (by rcases h.2 with h | h <;> simp_all) (by rcases k.2 with h | h <;> simp_all)
      rw [this]
theorem bl_asymm {x y : List UInt8} (h : Op.bytesLess x y = true) : Op.bytesLess y x = false := by
  cases k : Op.bytesLess y x with
  | false => rfl
  | true => have := bl_trans h k; rw [bl_irrefl] at this; cases this
theorem bl_nil (x : List UInt8) : Op.bytesLess x [] = false := by cases x <;> rfl
theorem bl_of_nil {x : List UInt8} (h : x ≠ []) : Op.bytesLess [] x = true := by cases x <;> simp_all [Op.bytesLess]
/-- x ≤ y, y ≤ z -/
theorem le_trans' {x y z : List UInt8} (h : Op.bytesLess y x = false) (k : Op.bytesLess z y = false) : Op.bytesLess z x = false := by
  cases j : Op.bytesLess z x with
  | false => rfl
  | true =>
    cases l : Op.bytesLess x y with
    | true => rw [bl_trans j l] at k; cases k
    | false => rw [bl_tri l h] at j; rw [j] at k; cases k
/-- x < y ≤ z -/
theorem lt_le {x y z : List UInt8} (h : Op.bytesLess x y = true) (k : Op.bytesLess z y = false) : Op.bytesLess x z = true := by
  cases l : Op.bytesLess y z with
  | true => exact bl_trans h l
  | false => rw [← bl_tri l k]; exact h
/-- x ≤ y < z -/
theorem le_lt {x y z : List UInt8} (h : Op.bytesLess y x = false) (k : Op.bytesLess y z = true) : Op.bytesLess x z = true := by
  cases l : Op.bytesLess x y with
  | true => exact bl_trans l k
  | false => rw [bl_tri l h]; exact k
def gtB (a b : ByteArray) : Bool := !Op.bytesLess a.toList b.toList && !(a.toList == b.toList)
def leB (a b : ByteArray) : Bool := Op.bytesLess a.toList b.toList || a.toList == b.toList
def isB (f t : ByteArray) : Bool := decide ((f.size : Int) ≤ 16) && (decide ((t.size : Int) ≤ 16) && (t.toList.isEmpty || gtB t f))
def inB (f t k : ByteArray) : Bool := isB f t && decide ((1 : Int) ≤ k.size) && decide ((k.size : Int) ≤ 16) && !(Op.bytesLess k.toList f.toList) && (t.toList.isEmpty || Op.bytesLess k.toList t.toList)
def withinB (f t f' t' : ByteArray) : Bool := isB f t && isB f' t' && !(Op.bytesLess f.toList f'.toList) && (t'.toList.isEmpty || (!t.toList.isEmpty && leB t t'))
def cutOk (f t k : ByteArray) : Bool := inB f t k && !(leB k f)
def joinOk (f t f' t' : ByteArray) : Bool := isB f t && isB f' t' && !t.toList.isEmpty && (t.toList == f'.toList)
def sel (b : Bool) (x : ByteArray) : ByteArray := if b then x else ⟨#[]⟩

theorem isB_iff (f t : ByteArray) : isB f t = true ↔ (f.size : Int) ≤ 16 ∧ (t.size : Int) ≤ 16 ∧ (t.toList = [] ∨ Op.bytesLess f.toList t.toList = true) := by
  have key : gtB t f = true ↔ Op.bytesLess f.toList t.toList = true := by
    unfold gtB
    simp only [Bool.and_eq_true, Bool.not_eq_true', beq_eq_false_iff_ne]
    constructor
    · rintro ⟨h, k⟩
      cases j : Op.bytesLess f.toList t.toList with
      | true => rfl
      | false => exact absurd (bl_tri h j) k
    · intro h
      refine ⟨bl_asymm h, fun e => ?_⟩
      rw [e, bl_irrefl] at h; cases h
  simp only [isB, Bool.and_eq_true, Bool.or_eq_true, decide_eq_true_eq, List.isEmpty_iff, key]
theorem inB_iff (f t k : ByteArray) : inB f t k = true ↔ isB f t = true ∧ (1 : Int) ≤ k.size ∧ (k.size : Int) ≤ 16 ∧ Op.bytesLess k.toList f.toList = false ∧ (t.toList = [] ∨ Op.bytesLess k.toList t.toList = true) := by
  simp [inB, and_assoc]
theorem withinB_iff (f t f' t' : ByteArray) : withinB f t f' t' = true ↔ isB f t = true ∧ isB f' t' = true ∧ Op.bytesLess f.toList f'.toList = false ∧ (t'.toList = [] ∨ (t.toList ≠ [] ∧ Op.bytesLess t'.toList t.toList = false)) := by
  have key : leB t t' = true ↔ Op.bytesLess t'.toList t.toList = false := by
    unfold leB
    simp only [Bool.or_eq_true, beq_iff_eq]
    constructor
    · rintro (h | h)
      · exact bl_asymm h
      · rw [h]; exact bl_irrefl _
    · intro h
      cases j : Op.bytesLess t.toList t'.toList with
      | true => exact .inl rfl
      | false => exact .inr (bl_tri j h)
  simp [withinB, and_assoc, key]
theorem cutOk_iff (f t k : ByteArray) : cutOk f t k = true ↔ inB f t k = true ∧ Op.bytesLess f.toList k.toList = true := by
  unfold cutOk leB
  simp only [Bool.and_eq_true, Bool.not_eq_true', Bool.or_eq_false_iff, beq_eq_false_iff_ne]
  constructor
  · rintro ⟨h, j, n⟩
    refine ⟨h, ?_⟩
    cases l : Op.bytesLess f.toList k.toList with
    | true => rfl
    | false => exact absurd (bl_tri l j).symm n
  · rintro ⟨h, j⟩
    refine ⟨h, bl_asymm j, fun e => ?_⟩
    rw [e, bl_irrefl] at j; cases j

theorem within_trans {a a' b b' c c' : ByteArray} (h : withinB a a' b b' = true) (k : withinB b b' c c' = true) : withinB a a' c c' = true := by
  rw [withinB_iff] at *
  obtain ⟨h1, h2, h3, h4⟩ := h
  obtain ⟨-, k2, k3, k4⟩ := k
  refine ⟨h1, k2, le_trans' k3 h3, ?_⟩
  rcases k4 with k4 | ⟨k4, k5⟩
  · exact .inl k4
  · rcases h4 with h4 | ⟨h4, h5⟩
    · exact absurd h4 k4
    · exact .inr ⟨h4, le_trans' h5 k5⟩
theorem within_in {a a' b b' k : ByteArray} (h : withinB a a' b b' = true) (j : inB a a' k = true) : inB b b' k = true := by
  rw [withinB_iff] at h; rw [inB_iff] at *
  obtain ⟨h1, h2, h3, h4⟩ := h
  obtain ⟨-, j2, j3, j4, j5⟩ := j
  refine ⟨h2, j2, j3, le_trans' h3 j4, ?_⟩
  rcases h4 with h4 | ⟨h4, h5⟩
  · exact .inl h4
  · rcases j5 with j5 | j5
    · exact absurd j5 h4
    · exact .inr (lt_le j5 h5)
theorem within_refl {a a' : ByteArray} (h : isB a a' = true) : withinB a a' a a' = true := by
  rw [withinB_iff]
  refine ⟨h, h, bl_irrefl _, ?_⟩
  by_cases e : a'.toList = []
  · exact .inl e
  · exact .inr ⟨e, bl_irrefl _⟩
theorem size_pos {k : ByteArray} (h : (1 : Int) ≤ k.size) : k.toList ≠ [] := by
  intro e
  rw [ByteArray.toList_eq] at e
  have : k.data.size = 0 := by rw [← Array.length_toList, e]; rfl
  have : k.size = 0 := this
  omega
/-- A cut: both parts are spans, side by side, within the whole; a key is in just one of both. -/
theorem cut_parts {f t k : ByteArray} (h : cutOk f t k = true) : isB f k = true ∧ isB k t = true ∧ joinOk f k k t = true ∧ withinB f k f t = true ∧ withinB k t f t = true := by
  rw [cutOk_iff, inB_iff, isB_iff] at h
  obtain ⟨⟨⟨h1, h2, h3⟩, h4, h5, h6, h7⟩, h8⟩ := h
  have i1 : isB f k = true := (isB_iff _ _).2 ⟨h1, h5, .inr h8⟩
  have i2 : isB k t = true := (isB_iff _ _).2 ⟨h5, h2, h7⟩
  have i3 : isB f t = true := (isB_iff _ _).2 ⟨h1, h2, h3⟩
  refine ⟨i1, i2, ?_, ?_, ?_⟩
  · have := size_pos h4
    simp [joinOk, i1, i2, this]
  · rw [withinB_iff]
    refine ⟨i1, i3, bl_irrefl _, ?_⟩
    rcases h7 with h7 | h7
    · exact .inl h7
    · exact .inr ⟨size_pos h4, bl_asymm h7⟩
  · rw [withinB_iff]
    refine ⟨i2, i3, h6, ?_⟩
    by_cases e : t.toList = []
    · exact .inl e
    · exact .inr ⟨e, bl_irrefl _⟩
theorem cut_in {f t k x : ByteArray} (h : cutOk f t k = true) : (inB f t x = (inB f k x != inB k t x)) ∧ (inB f k x && inB k t x) = false := by
  obtain ⟨i1, i2, -, w1, w2⟩ := cut_parts h
  rw [cutOk_iff, inB_iff] at h
  obtain ⟨⟨i3, h4, h5, h6, h7⟩, h8⟩ := h
  cases a : inB f k x with
  | true =>
    have b := within_in w1 a
    have c : inB k t x = false := by
      cases c : inB k t x with
      | false => rfl
      | true =>
        rw [inB_iff] at a c
        rcases a.2.2.2.2 with a | a
        · exact absurd a (size_pos h4)
        · rw [a] at c; exact absurd c.2.2.2.1 (by simp)
    simp [b, c]
  | false =>
    cases c : inB k t x with
    | true => have b := within_in w2 c; simp [b]
    | false =>
      cases b : inB f t x with
      | false => simp
      | true =>
        exfalso
        rw [inB_iff] at b
        obtain ⟨-, b2, b3, b4, b5⟩ := b
        cases l : Op.bytesLess x.toList k.toList with
        | true => have : inB f k x = true := (inB_iff _ _ _).2 ⟨i1, b2, b3, b4, .inr l⟩; rw [a] at this; cases this
        | false => have : inB k t x = true := (inB_iff _ _ _).2 ⟨i2, b2, b3, l, b5⟩; rw [c] at this; cases this
end Go.Proofs.Ytobnibdeimiinaa
