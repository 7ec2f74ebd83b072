/- Texts put together: Plain, PlainTwo, PartsPlain, DirP, DirQ, RMp. -/
import GoSem.Op.String
import Derived.Lib.Strings

/- The order of texts, byte by byte; plain laws of spans: no program in sight. -/
namespace Go.Proofs.Ytobnibdeimiinaa

theorem bl_irrefl (x : List UInt8) : Op.bytesLess x x = false := by
  induction x with
  | nil => rfl
  | cons a x ih => simp [Op.bytesLess, ih]
theorem bl_trans {x y z : List UInt8} (h : Op.bytesLess x y = true) (k : Op.bytesLess y z = true) : Op.bytesLess x z = true := by
  induction x generalizing y z with
  | nil =>
    cases y with
    | nil => simp [Op.bytesLess] at h
    | cons b y => cases z with
      | nil => simp [Op.bytesLess] at k
      | cons c z => simp [Op.bytesLess]
  | cons a x ih =>
    cases y with
    | nil => simp [Op.bytesLess] at h
    | cons b y => cases z with
      | nil => simp [Op.bytesLess] at k
      | cons c z =>
        simp only [Op.bytesLess, Bool.or_eq_true, decide_eq_true_eq, Bool.and_eq_true, beq_iff_eq] at h k ⊢
        rcases h with h | ⟨rfl, h⟩ <;> rcases k with k | ⟨rfl, k⟩
        · left; exact UInt8.lt_trans h k
        · left; exact h
        · left; exact k
        · right; exact ⟨rfl, ih h k⟩
theorem bl_tri {x y : List UInt8} (h : Op.bytesLess x y = false) (k : Op.bytesLess y x = false) : x = y := by
  induction x generalizing y with
  | nil => cases y with
    | nil => rfl
    | cons b y => simp [Op.bytesLess] at h
  | cons a x ih => cases y with
    | nil => simp [Op.bytesLess] at k
    | cons b y =>
      simp only [Op.bytesLess, Bool.or_eq_false_iff, decide_eq_false_iff_not, Bool.and_eq_false_iff, beq_eq_false_iff_ne] at h k
      have e : a = b := by
        have h1 := h.1; have h2 := k.1
        exact UInt8.le_antisymm (UInt8.not_lt.1 h2) (UInt8.not_lt.1 h1)
      subst e
      have := ih (y := y) (by rcases h.2 with h | h <;> simp_all) (by rcases k.2 with h | h <;> simp_all)
      rw [this]
theorem bl_asymm {x y : List UInt8} (h : Op.bytesLess x y = true) : Op.bytesLess y x = false := by
  cases k : Op.bytesLess y x with
  | false => rfl
  | true => have := bl_trans h k; rw [bl_irrefl] at this; cases this
theorem bl_nil (x : List UInt8) : Op.bytesLess x [] = false := by cases x <;> rfl
theorem bl_of_nil {x : List UInt8} (h : x ≠ []) : Op.bytesLess [] x = true := by cases x <;> simp_all [Op.bytesLess]
/-- x ≤ y, y ≤ z -/
theorem le_trans' {x y z : List UInt8} (h : Op.bytesLess y x = false) (k : Op.bytesLess z y = false) : Op.bytesLess z x = false := by
  cases j : Op.bytesLess z x with
  | false => rfl
  | true =>
    cases l : Op.bytesLess x y with
    | true => rw [bl_trans j l] at k; cases k
    | false => rw [bl_tri l h] at j; rw [j] at k; cases k
/-- x < y ≤ z -/
theorem lt_le {x y z : List UInt8} (h : Op.bytesLess x y = true) (k : Op.bytesLess z y = false) : Op.bytesLess x z = true := by
  cases l : Op.bytesLess y z with
  | true => exact bl_trans h l
  | false => rw [← bl_tri l k]; exact h
/-- x ≤ y < z -/
theorem le_lt {x y z : List UInt8} (h : Op.bytesLess y x = false) (k : Op.bytesLess y z = true) : Op.bytesLess x z = true := by
  cases l : Op.bytesLess x y with
  | true => exact bl_trans l k
  | false => rw [bl_tri l h]; exact k
def gtB (a b : ByteArray) : Bool := !Op.bytesLess a.toList b.toList && !(a.toList == b.toList)
def leB (a b : ByteArray) : Bool := Op.bytesLess a.toList b.toList || a.toList == b.toList
def isB (f t : ByteArray) : Bool := decide ((f.size : Int) ≤ 16) && (decide ((t.size : Int) ≤ 16) && (t.toList.isEmpty || gtB t f))
def inB (f t k : ByteArray) : Bool := isB f t && decide ((1 : Int) ≤ k.size) && decide ((k.size : Int) ≤ 16) && !(Op.bytesLess k.toList f.toList) && (t.toList.isEmpty || Op.bytesLess k.toList t.toList)
def withinB (f t f' t' : ByteArray) : Bool := isB f t && isB f' t' && !(Op.bytesLess f.toList f'.toList) && (t'.toList.isEmpty || (!t.toList.isEmpty && leB t t'))
def cutOk (f t k : ByteArray) : Bool := inB f t k && !(leB k f)
def joinOk (f t f' t' : ByteArray) : Bool := isB f t && isB f' t' && !t.toList.isEmpty && (t.toList == f'.toList)
def sel (b : Bool) (x : ByteArray) : ByteArray := if b then x else ⟨#[]⟩

theorem isB_iff (f t : ByteArray) : isB f t = true ↔ (f.size : Int) ≤ 16 ∧ (t.size : Int) ≤ 16 ∧ (t.toList = [] ∨ Op.bytesLess f.toList t.toList = true) := by
  have key : gtB t f = true ↔ Op.bytesLess f.toList t.toList = true := by
    unfold gtB
    simp only [Bool.and_eq_true, Bool.not_eq_true', beq_eq_false_iff_ne]
    constructor
    · rintro ⟨h, k⟩
      cases j : Op.bytesLess f.toList t.toList with
      | true => rfl
      | false => exact absurd (bl_tri h j) k
    · intro h
      refine ⟨bl_asymm h, fun e => ?_⟩
      rw [e, bl_irrefl] at h; cases h
  simp only [isB, Bool.and_eq_true, Bool.or_eq_true, decide_eq_true_eq, List.isEmpty_iff, key]
theorem inB_iff (f t k : ByteArray) : inB f t k = true ↔ isB f t = true ∧ (1 : Int) ≤ k.size ∧ (k.size : Int) ≤ 16 ∧ Op.bytesLess k.toList f.toList = false ∧ (t.toList = [] ∨ Op.bytesLess k.toList t.toList = true) := by
  simp [inB, and_assoc]
theorem withinB_iff (f t f' t' : ByteArray) : withinB f t f' t' = true ↔ isB f t = true ∧ isB f' t' = true ∧ Op.bytesLess f.toList f'.toList = false ∧ (t'.toList = [] ∨ (t.toList ≠ [] ∧ Op.bytesLess t'.toList t.toList = false)) := by
  have key : leB t t' = true ↔ Op.bytesLess t'.toList t.toList = false := by
    unfold leB
    simp only [Bool.or_eq_true, beq_iff_eq]
    constructor
    · rintro (h | h)
      · exact bl_asymm h
      · rw [h]; exact bl_irrefl _
    · intro h
      cases j : Op.bytesLess t.toList t'.toList with
      | true => exact .inl rfl
      | false => exact .inr (bl_tri j h)
  simp [withinB, and_assoc, key]
theorem cutOk_iff (f t k : ByteArray) : cutOk f t k = true ↔ inB f t k = true ∧ Op.bytesLess f.toList k.toList = true := by
  unfold cutOk leB
  simp only [Bool.and_eq_true, Bool.not_eq_true', Bool.or_eq_false_iff, beq_eq_false_iff_ne]
  constructor
  · rintro ⟨h, j, n⟩
    refine ⟨h, ?_⟩
    cases l : Op.bytesLess f.toList k.toList with
    | true => rfl
    | false => exact absurd (bl_tri l j).symm n
  · rintro ⟨h, j⟩
    refine ⟨h, bl_asymm j, fun e => ?_⟩
    rw [e, bl_irrefl] at j; cases j

theorem within_trans {a a' b b' c c' : ByteArray} (h : withinB a a' b b' = true) (k : withinB b b' c c' = true) : withinB a a' c c' = true := by
  rw [withinB_iff] at *
  obtain ⟨h1, h2, h3, h4⟩ := h
  obtain ⟨-, k2, k3, k4⟩ := k
  refine ⟨h1, k2, le_trans' k3 h3, ?_⟩
  rcases k4 with k4 | ⟨k4, k5⟩
  · exact .inl k4
  · rcases h4 with h4 | ⟨h4, h5⟩
    · exact absurd h4 k4
    · exact .inr ⟨h4, le_trans' h5 k5⟩
theorem within_in {a a' b b' k : ByteArray} (h : withinB a a' b b' = true) (j : inB a a' k = true) : inB b b' k = true := by
  rw [withinB_iff] at h; rw [inB_iff] at *
  obtain ⟨h1, h2, h3, h4⟩ := h
  obtain ⟨-, j2, j3, j4, j5⟩ := j
  refine ⟨h2, j2, j3, le_trans' h3 j4, ?_⟩
  rcases h4 with h4 | ⟨h4, h5⟩
  · exact .inl h4
  · rcases j5 with j5 | j5
    · exact absurd j5 h4
    · exact .inr (lt_le j5 h5)
theorem within_refl {a a' : ByteArray} (h : isB a a' = true) : withinB a a' a a' = true := by
  rw [withinB_iff]
  refine ⟨h, h, bl_irrefl _, ?_⟩
  by_cases e : a'.toList = []
  · exact .inl e
  · exact .inr ⟨e, bl_irrefl _⟩
theorem size_pos {k : ByteArray} (h : (1 : Int) ≤ k.size) : k.toList ≠ [] := by
  intro e
  rw [ByteArray.toList_eq] at e
  have : k.data.size = 0 := by rw [← Array.length_toList, e]; rfl
  have : k.size = 0 := this
  omega
/-- A cut: both parts are spans, side by side, within the whole; a key is in just one of both. -/
theorem cut_parts {f t k : ByteArray} (h : cutOk f t k = true) : isB f k = true ∧ isB k t = true ∧ joinOk f k k t = true ∧ withinB f k f t = true ∧ withinB k t f t = true := by
  rw [cutOk_iff, inB_iff, isB_iff] at h
  obtain ⟨⟨⟨h1, h2, h3⟩, h4, h5, h6, h7⟩, h8⟩ := h
  have i1 : isB f k = true := (isB_iff _ _).2 ⟨h1, h5, .inr h8⟩
  have i2 : isB k t = true := (isB_iff _ _).2 ⟨h5, h2, h7⟩
  have i3 : isB f t = true := (isB_iff _ _).2 ⟨h1, h2, h3⟩
  refine ⟨i1, i2, ?_, ?_, ?_⟩
  · have := size_pos h4
    simp [joinOk, i1, i2, this]
  · rw [withinB_iff]
    refine ⟨i1, i3, bl_irrefl _, ?_⟩
    rcases h7 with h7 | h7
    · exact .inl h7
    · exact .inr ⟨size_pos h4, bl_asymm h7⟩
  · rw [withinB_iff]
    refine ⟨i2, i3, h6, ?_⟩
    by_cases e : t.toList = []
    · exact .inl e
    · exact .inr ⟨e, bl_irrefl _⟩
theorem cut_in {f t k x : ByteArray} (h : cutOk f t k = true) : (inB f t x = (inB f k x != inB k t x)) ∧ (inB f k x && inB k t x) = false := by
  obtain ⟨i1, i2, -, w1, w2⟩ := cut_parts h
  rw [cutOk_iff, inB_iff] at h
  obtain ⟨⟨i3, h4, h5, h6, h7⟩, h8⟩ := h
  cases a : inB f k x with
  | true =>
    have b := within_in w1 a
    have c : inB k t x = false := by
      cases c : inB k t x with
      | false => rfl
      | true =>
        rw [inB_iff] at a c
        rcases a.2.2.2.2 with a | a
        · exact absurd a (size_pos h4)
        · rw [a] at c; exact absurd c.2.2.2.1 (by simp)
    simp [b, c]
  | false =>
    cases c : inB k t x with
    | true => have b := within_in w2 c; simp [b]
    | false =>
      cases b : inB f t x with
      | false => simp
      | true =>
        exfalso
        rw [inB_iff] at b
        obtain ⟨-, b2, b3, b4, b5⟩ := b
        cases l : Op.bytesLess x.toList k.toList with
        | true => have : inB f k x = true := (inB_iff _ _ _).2 ⟨i1, b2, b3, b4, .inr l⟩; rw [a] at this; cases this
        | false => have : inB k t x = true := (inB_iff _ _ _).2 ⟨i2, b2, b3, l, b5⟩; rw [c] at this; cases this
end Go.Proofs.Ytobnibdeimiinaa

/- What All comes to, in both forms; that both say the same. -/
namespace Go.Proofs.Ytobnibdeimiinaa
abbrev Sp := ByteArray × ByteArray
def emptyB : ByteArray := ⟨#[]⟩
/-- What package span's All comes to from the second span on; 'a': what the first ones are together. -/
def sGo (a : Sp) : List Sp → Option Sp
  | [] => some a
  | s :: r => if joinOk a.1 a.2 s.1 s.2 then sGo (a.1, s.2) r else none
def endB (a : Sp) : Bool := isB a.1 a.2 && (a.1.toList.isEmpty && a.2.toList.isEmpty)
def sAll : List Sp → Bool
  | [] => false
  | s :: r => match sGo s r with
    | none => false
    | some a => endB a
/-- What the reference's All comes to; 'at': where the next one has to begin. -/
def rGo (atB : List UInt8) : List Sp → Option (List UInt8)
  | [] => some atB
  | s :: r => if isB s.1 s.2 && (s.1.toList == atB) && !atB.isEmpty then rGo s.2.toList r else none
def finR : Option (List UInt8) → Bool
  | none => false
  | some e => e.isEmpty
def rAll : List Sp → Bool
  | [] => false
  | s :: r => if isB s.1 s.2 && s.1.toList.isEmpty then finR (rGo s.2.toList r) else false

theorem joinOk_iff (f t f' t' : ByteArray) : joinOk f t f' t' = true ↔ isB f t = true ∧ isB f' t' = true ∧ t.toList ≠ [] ∧ t.toList = f'.toList := by
  simp [joinOk, and_assoc]
theorem isB_from {f g t : ByteArray} (h : isB g t = true) (hf : f.toList = []) : isB f t = true := by
  rw [isB_iff] at *
  refine ⟨?_, h.2.1, ?_⟩
  · have : f.size = 0 := by
      rw [ByteArray.toList_eq] at hf
      show f.data.size = 0
      rw [← Array.length_toList, hf]; rfl
    omega
  · rcases h.2.2 with h | h
    · exact .inl h
    · right
      rw [hf]
      exact bl_of_nil fun e => by rw [e, bl_nil] at h; cases h

theorem sGo_rGo (f t : ByteArray) (r : List Sp) (hf : f.toList = []) (h : isB f t = true) :
    (match sGo (f, t) r with | none => false | some a => endB a) = finR (rGo t.toList r) := by
  induction r generalizing t with
  | nil => simp [sGo, rGo, finR, endB, h, hf]
  | cons s r ih =>
    simp only [sGo, rGo]
    have e : joinOk f t s.1 s.2 = (isB s.1 s.2 && (s.1.toList == t.toList) && !t.toList.isEmpty) := by
      rw [Bool.eq_iff_iff, joinOk_iff]
      simp only [h, true_and, Bool.and_eq_true, beq_iff_eq, Bool.not_eq_true', List.isEmpty_eq_false_iff]
      constructor
      · rintro ⟨a, b, c⟩; exact ⟨⟨a, c.symm⟩, b⟩
      · rintro ⟨⟨a, c⟩, b⟩; exact ⟨a, b, c.symm⟩
    rw [e]
    by_cases hc : (isB s.1 s.2 && (s.1.toList == t.toList) && !t.toList.isEmpty) = true
    · rw [if_pos hc, if_pos hc]
      simp only [Bool.and_eq_true] at hc
      exact ih s.2 (isB_from hc.1.1 hf)
    · rw [if_neg hc, if_neg hc]; rfl
theorem sGo_none (f t : ByteArray) (r : List Sp) (hf : f.toList ≠ []) : (match sGo (f, t) r with | none => false | some a => endB a) = false := by
  induction r generalizing t with
  | nil => simp [sGo, endB, hf]
  | cons s r ih =>
    simp only [sGo]
    by_cases hc : joinOk f t s.1 s.2 = true
    · rw [if_pos hc]; exact ih s.2
    · rw [if_neg hc]
theorem sGo_bad (f t : ByteArray) (r : List Sp) (h : isB f t = false) : (match sGo (f, t) r with | none => false | some a => endB a) = false := by
  cases r with
  | nil => simp [sGo, endB, h]
  | cons s r =>
    have : joinOk f t s.1 s.2 = false := by simp [joinOk, h]
    simp [sGo, this]
/-- Both say the same. -/
theorem all_same (l : List Sp) : sAll l = rAll l := by
  cases l with
  | nil => rfl
  | cons s r =>
    obtain ⟨s1, s2⟩ := s
    show (match sGo (s1, s2) r with | none => false | some a => endB a) = (if isB s1 s2 && s1.toList.isEmpty then finR (rGo s2.toList r) else false)
    by_cases hf : s1.toList = []
    · cases h : isB s1 s2 with
      | false => rw [sGo_bad s1 s2 r h]; simp
      | true => rw [sGo_rGo s1 s2 r hf h]; simp [hf]
    · rw [sGo_none s1 s2 r hf]; simp [hf]
end Go.Proofs.Ytobnibdeimiinaa

/- Cuts of all keys: they stay a chain from key to key, and each key lies in just one. -/
namespace Go.Proofs.Ytobnibdeimiinaa
/-- Spans one behind the other, from f on to the end of all keys. -/
def Chain (f : List UInt8) : List Sp → Prop
  | [] => False
  | s :: r => s.1.toList = f ∧ isB s.1 s.2 = true ∧ ((r = [] ∧ s.2.toList = []) ∨ (s.2.toList ≠ [] ∧ Chain s.2.toList r))
theorem chain_start : Chain [] [((⟨#[]⟩ : ByteArray), (⟨#[]⟩ : ByteArray))] := ⟨by decide +kernel, by decide +kernel, .inl ⟨rfl, by decide +kernel⟩⟩
theorem chain_fin {s : Sp} {r : List Sp} (h : (r = [] ∧ s.2.toList = []) ∨ (s.2.toList ≠ [] ∧ Chain s.2.toList r)) : finR (rGo s.2.toList r) = true := by
  induction r generalizing s with
  | nil =>
    rcases h with ⟨-, h⟩ | ⟨-, h⟩
    · simp [rGo, finR, h]
    · exact h.elim
  | cons t r ih =>
    rcases h with ⟨h, -⟩ | ⟨h1, h2, h3, h4⟩
    · cases h
    · have : (isB t.1 t.2 && (t.1.toList == s.2.toList) && !s.2.toList.isEmpty) = true := by simp [h3, h2, h1]
      simp only [rGo, this, if_true]
      exact ih h4
theorem chain_all {l : List Sp} (h : Chain [] l) : sAll l = true := by
  rw [all_same]
  cases l with
  | nil => exact h.elim
  | cons s r =>
    obtain ⟨h1, h2, h3⟩ := h
    simp only [rAll, h1, h2]
    simpa using chain_fin h3
theorem chain_cut {f : List UInt8} {l : List Sp} {k : Nat} (h : Chain f l) (hk : k < l.length) {x : ByteArray} (hc : cutOk l[k].1 l[k].2 x = true) : Chain f (l.take k ++ [(l[k].1, x), (x, l[k].2)] ++ l.drop (k + 1)) := by
  induction l generalizing f k with
  | nil => simp at hk
  | cons s r ih =>
    obtain ⟨h1, h2, h3⟩ := h
    cases k with
    | zero =>
      simp only [List.getElem_cons_zero] at hc
      obtain ⟨i1, i2, hj, -, -⟩ := cut_parts hc
      rw [joinOk_iff] at hj
      refine ⟨h1, i1, .inr ⟨hj.2.2.1, rfl, i2, ?_⟩⟩
      simpa using h3
    | succ k =>
      simp only [List.getElem_cons_succ] at hc
      have hk' : k < r.length := by simpa using hk
      rcases h3 with ⟨h3, -⟩ | ⟨h3, h4⟩
      · subst h3; simp at hk'
      · exact ⟨h1, h2, .inr ⟨h3, ih h4 hk' hc⟩⟩
theorem cut_length {l : List Sp} {k : Nat} (hk : k < l.length) (a b : Sp) : (l.take k ++ [a, b] ++ l.drop (k + 1)).length = l.length + 1 := by
  simp only [List.length_append, List.length_take, List.length_drop, List.length_cons, List.length_nil]; omega
def cnt (x : ByteArray) (l : List Sp) : Nat := (l.filter fun s => inB s.1 s.2 x).length
theorem cnt_le (x : ByteArray) (l : List Sp) : cnt x l ≤ l.length := List.length_filter_le _ _
theorem cnt_next (x : ByteArray) (l : List Sp) (k : Nat) (h : k < l.length) : cnt x (l.take (k + 1)) = cnt x (l.take k) + if inB l[k].1 l[k].2 x then 1 else 0 := by
  unfold cnt
  rw [List.take_succ_eq_append_getElem h, List.filter_append, List.length_append, List.filter_cons]
  cases inB l[k].1 l[k].2 x <;> rfl
theorem chain_cnt {f : List UInt8} {l : List Sp} {x : ByteArray} (h : Chain f l) (h1 : (1 : Int) ≤ x.size) (h2 : (x.size : Int) ≤ 16) :
    (Op.bytesLess x.toList f = false → cnt x l = 1) ∧ (Op.bytesLess x.toList f = true → cnt x l = 0) := by
  induction l generalizing f with
  | nil => exact h.elim
  | cons s r ih =>
    obtain ⟨e, hi, h3⟩ := h
    have hin : inB s.1 s.2 x = true ↔ Op.bytesLess x.toList f = false ∧ (s.2.toList = [] ∨ Op.bytesLess x.toList s.2.toList = true) := by
      rw [inB_iff, e]; simp [hi, h1, h2]
    have hc : cnt x (s :: r) = (if inB s.1 s.2 x then 1 else 0) + cnt x r := by
      unfold cnt
      rw [List.filter_cons]
      split <;> simp [Nat.add_comm]
    rcases h3 with ⟨rfl, h4⟩ | ⟨h4, h5⟩
    · have h0 : cnt x [] = 0 := rfl
      refine ⟨fun h => ?_, fun h => ?_⟩
      · rw [hc, h0, if_pos (hin.2 ⟨h, .inl h4⟩)]
      · rw [hc, h0, if_neg (fun a => by rw [hin, h] at a; exact absurd a.1 (by simp))]
    · obtain ⟨a, b⟩ := ih h5
      have hlt : Op.bytesLess f s.2.toList = true := by
        rw [isB_iff, e] at hi
        rcases hi.2.2 with h | h
        · exact absurd h h4
        · exact h
      refine ⟨fun h => ?_, fun h => ?_⟩
      · cases l : Op.bytesLess x.toList s.2.toList with
        | true => rw [hc, if_pos (hin.2 ⟨h, .inr l⟩), b l]
        | false => rw [hc, if_neg (fun c => by rw [hin, l] at c; rcases c.2 with c | c; exact h4 c; cases c), a l]
      · rw [hc, if_neg (fun c => by rw [hin, h] at c; exact absurd c.1 (by simp)), b (bl_trans h hlt)]
theorem chain_one {l : List Sp} {x : ByteArray} (h : Chain [] l) (h1 : (1 : Int) ≤ x.size) (h2 : (x.size : Int) ≤ 16) : cnt x l = 1 := (chain_cnt h h1 h2).1 (bl_nil _)
end Go.Proofs.Ytobnibdeimiinaa

/- A map's zones and what changes them, in plain Lean: what holds of a map stays. -/
namespace Go.Proofs.Ytobnibdeimiinaa

/-- A zone. -/
structure Zn where
  id : Int
  fr : ByteArray
  to : ByteArray
  owner : Int
  epoch : Int
  pend : Int
  tt : Int
  key : ByteArray
  nw : Int
deriving DecidableEq
/-- A change. -/
structure Ch where
  kind : Int
  zone : Int
  epoch : Int
  tt : Int
  key : ByteArray
/-- A map. -/
structure Mp where
  ver : Int
  next : Int
  zs : List Zn
def z0 : ByteArray := ⟨#[]⟩
abbrev topN : Int := 1099511627776
def mayC (c : Ch) : Bool := decide (1 ≤ c.zone ∧ c.zone ≤ 1099511627776) &&
  (if c.kind = 1 then decide (1 ≤ c.key.size ∧ c.key.size ≤ 16 ∧ c.epoch = 0 ∧ c.tt = 0)
  else if c.kind = 2 then decide (c.epoch = 0 ∧ c.tt = 0 ∧ c.key.toList = [])
  else if c.kind = 3 then decide (1 ≤ c.tt ∧ c.tt ≤ 1048576 ∧ c.epoch = 0 ∧ c.key.toList = [])
  else if c.kind = 4 ∨ c.kind = 5 then decide (1 ≤ c.epoch ∧ c.epoch ≤ 1099511627776 ∧ c.tt = 0 ∧ c.key.toList = [])
  else false)
/-- Where a zone stands. -/
def findZ (l : List Zn) (id : Int) : Option Nat := l.findIdx? fun z => z.id == id
def pendN (k : Int) (l : List Zn) : Nat := (l.filter fun z => z.pend == k).length
/-- A zone of a new epoch with nothing under way. -/
def endedZ (z : Zn) (e : Int) : Zn := { z with epoch := e, pend := 0, tt := 0, key := z0, nw := 0 }
def spz (z : Zn) : Sp := (z.fr, z.to)

/-- Numbers of zones: those that are there, those of splits. -/
def numsZ (z : Zn) : List Int := if z.pend = 1 then [z.id, z.nw] else [z.id]
def nums (l : List Zn) : List Int := l.flatMap numsZ
theorem nums_append (a b : List Zn) : nums (a ++ b) = nums a ++ nums b := by simp [nums]
theorem nums_cons (a : Zn) (b : List Zn) : nums (a :: b) = numsZ a ++ nums b := by simp [nums]
theorem id_mem {l : List Zn} {z : Zn} (h : z ∈ l) : z.id ∈ nums l := by
  simp only [nums, List.mem_flatMap]
  refine ⟨z, h, ?_⟩
  unfold numsZ; split <;> simp
theorem nw_mem {l : List Zn} {z : Zn} (h : z ∈ l) (hp : z.pend = 1) : z.nw ∈ nums l := by
  simp only [nums, List.mem_flatMap]
  refine ⟨z, h, ?_⟩
  simp [numsZ, hp]
theorem nums_length (l : List Zn) : (nums l).length = l.length + pendN 1 l := by
  induction l with
  | nil => rfl
  | cons z r ih =>
    rw [nums_cons, List.length_append, ih]
    unfold numsZ pendN
    by_cases h : z.pend = 1
    · simp [h]; omega
    · simp [h]; omega
/-- Two zones that are to be one. -/
def Pair (a b : Zn) : Prop := a.pend = 2 ∧ b.pend = 2 ∧ a.nw = b.id ∧ b.nw = a.id ∧ a.owner = b.owner
/-- Zones that stand alone, and pairs. -/
inductive Pairs : List Zn → Prop
  | nil : Pairs []
  | one {z : Zn} {r : List Zn} : z.pend ≠ 2 → Pairs r → Pairs (z :: r)
  | two {a b : Zn} {r : List Zn} : Pair a b → Pairs r → Pairs (a :: b :: r)
theorem Pairs.append {l r : List Zn} (h : Pairs l) (k : Pairs r) : Pairs (l ++ r) := by
  induction h with
  | nil => exact k
  | one hz _ ih => exact .one hz ih
  | two hp _ ih => exact .two hp ih
theorem Pairs.part {A B : List Zn} {z : Zn} (h : Pairs (A ++ z :: B)) (hz : z.pend ≠ 2) : Pairs A ∧ Pairs B := by
  generalize hl : A ++ z :: B = l at h
  induction h generalizing A with
  | nil => simp at hl
  | @one y r hy hr ih =>
    cases A with
    | nil => simp only [List.nil_append, List.cons.injEq] at hl; obtain ⟨rfl, rfl⟩ := hl; exact ⟨.nil, hr⟩
    | cons a A =>
      simp only [List.cons_append, List.cons.injEq] at hl
      obtain ⟨rfl, hl⟩ := hl
      obtain ⟨h1, h2⟩ := ih hl
      exact ⟨.one hy h1, h2⟩
  | @two a b r hp hr ih =>
    cases A with
    | nil => simp only [List.nil_append, List.cons.injEq] at hl; obtain ⟨rfl, -⟩ := hl; exact absurd hp.1 hz
    | cons a' A =>
      simp only [List.cons_append, List.cons.injEq] at hl
      obtain ⟨rfl, hl⟩ := hl
      cases A with
      | nil => simp only [List.nil_append, List.cons.injEq] at hl; obtain ⟨rfl, -⟩ := hl; exact absurd hp.2.1 hz
      | cons b' A =>
        simp only [List.cons_append, List.cons.injEq] at hl
        obtain ⟨rfl, hl⟩ := hl
        obtain ⟨h1, h2⟩ := ih hl
        exact ⟨.two hp h1, h2⟩
/-- A zone of a merge: its partner stands behind it or ahead of it. -/
theorem Pairs.mate {A B : List Zn} {z : Zn} (h : Pairs (A ++ z :: B)) (hz : z.pend = 2) : (∃ b R, B = b :: R ∧ Pair z b ∧ Pairs A ∧ Pairs R) ∨ (∃ Q a, A = Q ++ [a] ∧ Pair a z ∧ Pairs Q ∧ Pairs B) := by
  generalize hl : A ++ z :: B = l at h
  induction h generalizing A with
  | nil => simp at hl
  | @one y r hy hr ih =>
    cases A with
    | nil => simp only [List.nil_append, List.cons.injEq] at hl; obtain ⟨rfl, rfl⟩ := hl; exact absurd hz hy
    | cons a A =>
      simp only [List.cons_append, List.cons.injEq] at hl
      obtain ⟨rfl, hl⟩ := hl
      rcases ih hl with ⟨b, R, e, h1, h2, h3⟩ | ⟨Q, a', e, h1, h2, h3⟩
      · exact .inl ⟨b, R, e, h1, .one hy h2, h3⟩
      · exact .inr ⟨a :: Q, a', by rw [e]; rfl, h1, .one hy h2, h3⟩
  | @two a b r hp hr ih =>
    cases A with
    | nil =>
      simp only [List.nil_append, List.cons.injEq] at hl
      obtain ⟨rfl, rfl⟩ := hl
      exact .inl ⟨b, r, rfl, hp, .nil, hr⟩
    | cons a' A =>
      simp only [List.cons_append, List.cons.injEq] at hl
      obtain ⟨rfl, hl⟩ := hl
      cases A with
      | nil =>
        simp only [List.nil_append, List.cons.injEq] at hl
        obtain ⟨rfl, rfl⟩ := hl
        exact .inr ⟨[], a', rfl, hp, .nil, hr⟩
      | cons b' A =>
        simp only [List.cons_append, List.cons.injEq] at hl
        obtain ⟨rfl, hl⟩ := hl
        rcases ih hl with ⟨b, R, e, h1, h2, h3⟩ | ⟨Q, a, e, h1, h2, h3⟩
        · exact .inl ⟨b, R, e, h1, .two hp h2, h3⟩
        · exact .inr ⟨a' :: b' :: Q, a, by rw [e]; rfl, h1, .two hp h2, h3⟩
/-- What a zone by itself is. -/
def ZOk (z : Zn) : Prop := 1 ≤ z.owner ∧ z.owner ≤ 1048576 ∧ 1 ≤ z.epoch ∧ z.epoch ≤ 1099511627776 ∧
  ((z.pend = 0 ∧ z.tt = 0 ∧ z.key = z0 ∧ z.nw = 0) ∨ (z.pend = 3 ∧ 1 ≤ z.tt ∧ z.tt ≤ 1048576 ∧ z.tt ≠ z.owner ∧ z.key = z0 ∧ z.nw = 0) ∨ (z.pend = 1 ∧ z.tt = 0 ∧ cutOk z.fr z.to z.key = true) ∨ (z.pend = 2 ∧ z.tt = 0 ∧ z.key = z0))
/-- What holds of a directory's map. -/
structure Inv (m : Mp) : Prop where
  ver : 1 ≤ m.ver ∧ m.ver ≤ 1099511627776
  next : 1 ≤ m.next ∧ m.next ≤ 1099511627776
  nd : (nums m.zs).Nodup
  lt : ∀ n ∈ nums m.zs, 1 ≤ n ∧ n < m.next
  ok : ∀ z ∈ m.zs, ZOk z
  prs : Pairs m.zs
  chain : Chain [] (m.zs.map spz)
  room : (nums m.zs).length ≤ 16
  moves : pendN 3 m.zs ≤ 2
/-- What a change does to a map. -/
def splitM (m : Mp) (i : Nat) (z : Zn) (c : Ch) : Option Mp := if z.pend ≠ 0 ∨ cutOk z.fr z.to c.key = false ∨ 16 ≤ m.zs.length + pendN 1 m.zs ∨ 1099511627776 ≤ m.next then none else
  some ⟨m.ver, m.next + 1, m.zs.set i { z with pend := 1, key := c.key, nw := m.next }⟩
def mergeM (m : Mp) (i : Nat) (a : Zn) : Option Mp := match m.zs[i + 1]? with
  | none => none
  | some b => if a.pend ≠ 0 ∨ b.pend ≠ 0 ∨ a.owner ≠ b.owner then none else some { m with zs := (m.zs.set i { a with pend := 2, nw := b.id }).set (i + 1) { b with pend := 2, nw := a.id } }
def moveM (hosts : List Int) (m : Mp) (i : Nat) (z : Zn) (c : Ch) : Option Mp := if z.pend ≠ 0 ∨ c.tt ∉ hosts ∨ c.tt = z.owner ∨ 2 ≤ pendN 3 m.zs then none else some { m with zs := m.zs.set i { z with pend := 3, tt := c.tt } }
def joinZ (z o : Zn) : Zn := { endedZ z (max z.epoch o.epoch + 1) with fr := sel (joinOk z.fr z.to o.fr o.to) z.fr, to := sel (joinOk z.fr z.to o.fr o.to) o.to }
def doneM (m : Mp) (i : Nat) (z : Zn) (c : Ch) : Option Mp := if z.epoch ≠ c.epoch ∨ 1099511627776 ≤ z.epoch then none else
  if z.pend = 1 then some { m with zs := m.zs.take i ++ { endedZ z (z.epoch + 1) with to := z.key } :: { endedZ z (z.epoch + 1) with fr := z.key, id := z.nw } :: m.zs.drop (i + 1) }
  else if z.pend = 2 then (match m.zs[i + 1]? with
    | none => none
    | some o => if o.id ≠ z.nw ∨ 1099511627776 ≤ max z.epoch o.epoch then none else some { m with zs := m.zs.take i ++ joinZ z o :: m.zs.drop (i + 2) })
  else if z.pend = 3 then some { m with zs := m.zs.set i { endedZ z (z.epoch + 1) with owner := z.tt } }
  else none
def abortM (m : Mp) (i : Nat) (z : Zn) (c : Ch) : Option Mp := if z.pend ≠ 3 ∨ z.epoch ≠ c.epoch ∨ 1099511627776 ≤ z.epoch then none else some { m with zs := m.zs.set i (endedZ z (z.epoch + 1)) }
def changeM (hosts : List Int) (m : Mp) (i : Nat) (z : Zn) (c : Ch) : Option Mp :=
  if c.kind = 1 then splitM m i z c else if c.kind = 2 then mergeM m i z else if c.kind = 3 then moveM hosts m i z c else if c.kind = 4 then doneM m i z c else abortM m i z c
def applyM (hosts : List Int) (m : Mp) (c : Ch) : Option Mp := if mayC c = true ∧ m.ver < 1099511627776 then
    (match findZ m.zs c.zone with
    | none => none
    | some i => match m.zs[i]? with
      | none => none
      | some z => (changeM hosts m i z c).map fun x => { x with ver := x.ver + 1 })
  else none
theorem cut_at {l : List Zn} {i : Nat} {z : Zn} (h : l[i]? = some z) : ∃ A B, l = A ++ z :: B ∧ A.length = i := by
  obtain ⟨hi, rfl⟩ := List.getElem?_eq_some_iff.1 h
  exact ⟨l.take i, l.drop (i + 1), by rw [← List.drop_eq_getElem_cons hi, List.take_append_drop], by rw [List.length_take]; omega⟩
theorem set_at {A B : List Zn} {z x : Zn} : (A ++ z :: B).set A.length x = A ++ x :: B := by simp
theorem chain_swap {f : List UInt8} {A B L M : List Sp} (h : Chain f (A ++ L ++ B)) (hL : L ≠ []) (hM : ∀ g R, Chain g (L ++ R) → Chain g (M ++ R)) : Chain f (A ++ M ++ B) := by
  induction A generalizing f with
  | nil => exact hM f B h
  | cons s r ih =>
    obtain ⟨h1, h2, h3⟩ := h
    refine ⟨h1, h2, ?_⟩
    rcases h3 with ⟨h3, -⟩ | ⟨h3, h4⟩
    · exfalso; cases L with
      | nil => exact hL rfl
      | cons a L => simp at h3
    · exact .inr ⟨h3, ih h4⟩
theorem pendN_append (k : Int) (a b : List Zn) : pendN k (a ++ b) = pendN k a + pendN k b := by simp [pendN]
theorem pendN_cons (k : Int) (z : Zn) (b : List Zn) : pendN k (z :: b) = (if z.pend = k then 1 else 0) + pendN k b := by
  unfold pendN
  by_cases h : z.pend = k
  · simp [h]; omega
  · simp [h]
section
variable {ver next : Int} {A B : List Zn} {z x : Zn}
theorem Inv.mk' {l : List Zn} (h : Inv ⟨ver, next, l⟩) : Inv ⟨ver, next, l⟩ := h
/-- One zone is turned; it and its like stay alone. -/
theorem Inv.turn {next' : Int} (h : Inv ⟨ver, next, A ++ z :: B⟩) (hx : ZOk x) (hs : spz x = spz z) (hp : z.pend ≠ 2 ∧ x.pend ≠ 2) (hn : next ≤ next' ∧ next' ≤ 1099511627776)
    (hnd : (nums (A ++ x :: B)).Nodup) (hlt : ∀ n ∈ numsZ x, 1 ≤ n ∧ n < next') (hroom : (nums (A ++ x :: B)).length ≤ 16) (hmv : pendN 3 (A ++ x :: B) ≤ 2) : Inv ⟨ver, next', A ++ x :: B⟩ := by
  obtain ⟨h1, h2, h3, h4, h5, h6, h7, h8, h9⟩ := h
  simp only at *
  refine ⟨h1, ⟨by simp only; omega, hn.2⟩, hnd, ?_, ?_, ?_, ?_, hroom, hmv⟩
  · intro n hm
    rw [nums_append, nums_cons, List.mem_append, List.mem_append] at hm
    rcases hm with hm | hm | hm
    · have := h4 n (by rw [nums_append]; simp [hm]); simp only; omega
    · exact hlt n hm
    · have := h4 n (by rw [nums_append, nums_cons]; simp [hm]); simp only; omega
  · intro y hy
    rw [List.mem_append, List.mem_cons] at hy
    rcases hy with hy | rfl | hy
    · exact h5 y (by simp [hy])
    · exact hx
    · exact h5 y (by simp [hy])
  · obtain ⟨p1, p2⟩ := h6.part hp.1
    exact p1.append (.one hp.2 p2)
  · simp only [List.map_append, List.map_cons, hs] at h7 ⊢
    exact h7
end
theorem numsZ_of {z : Zn} (h : z.pend ≠ 1) : numsZ z = [z.id] := by unfold numsZ; rw [if_neg h]
theorem numsZ_split {z : Zn} (h : z.pend = 1) : numsZ z = [z.id, z.nw] := by unfold numsZ; rw [if_pos h]
/-- Turned zones of the same numbers. -/
theorem Inv.same {ver next : Int} {A B : List Zn} {z x : Zn} (h : Inv ⟨ver, next, A ++ z :: B⟩) (hx : ZOk x) (hs : spz x = spz z) (hp : z.pend ≠ 2 ∧ x.pend ≠ 2) (hn : numsZ x = numsZ z) (hmv : pendN 3 (A ++ x :: B) ≤ 2) : Inv ⟨ver, next, A ++ x :: B⟩ := by
  have e : nums (A ++ x :: B) = nums (A ++ z :: B) := by rw [nums_append, nums_append, nums_cons, nums_cons, hn]
  refine h.turn hx hs hp ⟨Int.le_refl _, h.next.2⟩ (by rw [e]; exact h.nd) ?_ (by rw [e]; exact h.room) hmv
  intro n hm
  rw [hn] at hm
  exact h.lt n (by simp only; rw [nums_append, nums_cons]; simp [hm])
theorem split_inv {m m' : Mp} {i : Nat} {z : Zn} {c : Ch} (h : Inv m) (hi : m.zs[i]? = some z) (hm : splitM m i z c = some m') : Inv m' := by
  unfold splitM at hm
  split at hm
  · cases hm
  · rename_i hc
    simp only [not_or, Decidable.not_not] at hc
    obtain ⟨c1, c2, c3, c4⟩ := hc
    obtain ⟨A, B, hl, rfl⟩ := cut_at hi
    obtain ⟨ver, next, zs⟩ := m
    simp only at *
    subst hl
    rw [set_at] at hm
    simp only [Option.some.injEq] at hm
    subst hm
    have hzo := h.ok z (by simp)
    have hz0 : z.tt = 0 := by rcases hzo.2.2.2.2 with h | h | h | h <;> first | exact h.2.1 | omega
    have hnx := h.next
    have hzi := h.lt z.id (id_mem (by simp))
    have hnz : numsZ z = [z.id] := numsZ_of (by omega)
    have hnn : next ∉ nums (A ++ z :: B) := fun hm => by have := (h.lt _ hm).2; simp only at this; omega
    have e : ∀ x : Zn, x.pend = 1 → x.id = z.id → x.nw = next → (nums (A ++ x :: B)).Perm (next :: nums (A ++ z :: B)) := by
      intro x hx1 hx2 hx3
      rw [nums_append, nums_append, nums_cons, nums_cons, hnz, numsZ_split hx1, hx2, hx3]
      simp only [List.cons_append, List.nil_append]
      have p1 : (nums A ++ z.id :: next :: nums B).Perm (next :: (nums A ++ z.id :: nums B)) := by
        have : nums A ++ z.id :: next :: nums B = (nums A ++ [z.id]) ++ next :: nums B := by simp
        rw [this]
        refine List.perm_middle.trans ?_
        simp
      exact p1
    have ep := e { z with pend := 1, key := c.key, nw := next } rfl rfl rfl
    refine h.turn (next' := next + 1) ?_ rfl ⟨by omega, show (1 : Int) ≠ 2 by decide⟩ ⟨by omega, by simp only at hnx; omega⟩ (ep.nodup_iff.2 (List.nodup_cons.2 ⟨hnn, h.nd⟩)) ?_ ?_ ?_
    · exact ⟨hzo.1, hzo.2.1, hzo.2.2.1, hzo.2.2.2.1, .inr (.inr (.inl ⟨rfl, hz0, by simpa using c2⟩))⟩
    · intro n hn
      rw [numsZ_split rfl] at hn
      simp only [List.mem_cons, List.not_mem_nil, or_false] at hn
      simp only at hzi hnx
      rcases hn with rfl | rfl <;> omega
    · rw [ep.length_eq, List.length_cons, nums_length]; omega
    · have := h.moves
      simp only [pendN_append, pendN_cons] at this ⊢
      first | omega | (simp; omega) | (simp [endedZ]; omega) | (simp [joinZ]; omega) | (simp [joinZ, endedZ]; omega)
theorem move_inv {hosts : List Int} (hh : ∀ n ∈ hosts, 1 ≤ n ∧ n ≤ 1048576) {m m' : Mp} {i : Nat} {z : Zn} {c : Ch} (h : Inv m) (hi : m.zs[i]? = some z) (hm : moveM hosts m i z c = some m') : Inv m' := by
  unfold moveM at hm
  split at hm
  · cases hm
  · rename_i hc
    simp only [not_or, Decidable.not_not] at hc
    obtain ⟨c1, c2, c3, c4⟩ := hc
    obtain ⟨A, B, hl, rfl⟩ := cut_at hi
    obtain ⟨ver, next, zs⟩ := m
    simp only at *
    subst hl
    rw [set_at] at hm
    simp only [Option.some.injEq] at hm
    subst hm
    have hzo := h.ok z (by simp)
    have hz0 : z.key = z0 ∧ z.nw = 0 := by
      rcases hzo.2.2.2.2 with h | h | h | h
      · exact h.2.2
      · omega
      · omega
      · omega
    refine h.same ⟨hzo.1, hzo.2.1, hzo.2.2.1, hzo.2.2.2.1, .inr (.inl ⟨rfl, (hh _ c2).1, (hh _ c2).2, c3, hz0.1, hz0.2⟩)⟩ rfl ⟨by omega, show (3 : Int) ≠ 2 by decide⟩ ?_ ?_
    · rw [numsZ_of (z := z) (by omega)]; rfl
    · simp only [pendN_append, pendN_cons] at c4 ⊢
      rw [if_neg (by omega)] at c4
      simp only [if_true]
      omega
theorem ended_ok {z : Zn} (h : ZOk z) {e : Int} (h1 : 1 ≤ e) (h2 : e ≤ 1099511627776) : ZOk (endedZ z e) := ⟨h.1, h.2.1, h1, h2, .inl ⟨rfl, rfl, rfl, rfl⟩⟩
theorem abort_inv {m m' : Mp} {i : Nat} {z : Zn} {c : Ch} (h : Inv m) (hi : m.zs[i]? = some z) (hm : abortM m i z c = some m') : Inv m' := by
  unfold abortM at hm
  split at hm
  · cases hm
  · rename_i hc
    simp only [not_or, Decidable.not_not] at hc
    obtain ⟨c1, c2, c3⟩ := hc
    obtain ⟨A, B, hl, rfl⟩ := cut_at hi
    obtain ⟨ver, next, zs⟩ := m
    simp only at *
    subst hl
    rw [set_at] at hm
    simp only [Option.some.injEq] at hm
    subst hm
    have hzo := h.ok z (by simp)
    have he := hzo.2.2.1
    refine h.same (ended_ok hzo (by omega) (by omega)) rfl ⟨by omega, by simp [endedZ]⟩ ?_ ?_
    · rw [numsZ_of (z := z) (by omega)]; rfl
    · have := h.moves
      simp only [pendN_append, pendN_cons] at this ⊢
      first | omega | (simp; omega) | (simp [endedZ]; omega) | (simp [joinZ]; omega) | (simp [joinZ, endedZ]; omega)
theorem merge_inv {m m' : Mp} {i : Nat} {a : Zn} (h : Inv m) (hi : m.zs[i]? = some a) (hm : mergeM m i a = some m') : Inv m' := by
  unfold mergeM at hm
  cases hb : m.zs[i + 1]? with
  | none => rw [hb] at hm; cases hm
  | some b =>
    rw [hb] at hm
    simp only at hm
    split at hm
    · cases hm
    · rename_i hc
      simp only [not_or, Decidable.not_not] at hc
      obtain ⟨c1, c2, c3⟩ := hc
      obtain ⟨A, B, hl, rfl⟩ := cut_at hi
      obtain ⟨ver, next, zs⟩ := m
      simp only at *
      subst hl
      obtain ⟨R, rfl⟩ : ∃ R, B = b :: R := by
        rw [List.getElem?_append_right (by omega)] at hb
        simp only [show A.length + 1 - A.length = 1 by omega, List.getElem?_cons_succ] at hb
        cases B with
        | nil => simp at hb
        | cons y R => simp at hb; exact ⟨R, by rw [hb]⟩
      rw [set_at, show A.length + 1 = (A ++ [{ a with pend := 2, nw := b.id }]).length by simp, show A ++ { a with pend := 2, nw := b.id } :: b :: R = (A ++ [{ a with pend := 2, nw := b.id }]) ++ b :: R by simp, set_at] at hm
      simp only [Option.some.injEq, List.append_assoc, List.cons_append, List.nil_append] at hm
      subst hm
      have hzo := h.ok a (by simp)
      have hyo := h.ok b (by simp)
      have ha0 : a.tt = 0 ∧ a.key = z0 := by rcases hzo.2.2.2.2 with h | h | h | h <;> first | exact ⟨h.2.1, h.2.2.1⟩ | omega
      have hb0 : b.tt = 0 ∧ b.key = z0 := by rcases hyo.2.2.2.2 with h | h | h | h <;> first | exact ⟨h.2.1, h.2.2.1⟩ | omega
      have e : nums (A ++ { a with pend := 2, nw := b.id } :: { b with pend := 2, nw := a.id } :: R) = nums (A ++ a :: b :: R) := by
        simp only [nums_append, nums_cons]
        rw [numsZ_of (z := a) (by omega), numsZ_of (z := b) (by omega)]
        rfl
      obtain ⟨h1, h2, h3, h4, h5, h6, h7, h8, h9⟩ := h
      simp only at *
      refine ⟨h1, h2, by rw [e]; exact h3, by rw [e]; exact h4, ?_, ?_, ?_, by rw [e]; exact h8, ?_⟩
      · intro y hy
        rw [List.mem_append, List.mem_cons, List.mem_cons] at hy
        rcases hy with hy | rfl | rfl | hy
        · exact h5 y (by simp [hy])
        · exact ⟨hzo.1, hzo.2.1, hzo.2.2.1, hzo.2.2.2.1, .inr (.inr (.inr ⟨rfl, ha0⟩))⟩
        · exact ⟨hyo.1, hyo.2.1, hyo.2.2.1, hyo.2.2.2.1, .inr (.inr (.inr ⟨rfl, hb0⟩))⟩
        · exact h5 y (by simp [hy])
      · obtain ⟨p1, p2⟩ := h6.part (by omega)
        have p3 : Pairs R := (Pairs.part (A := []) p2 (by omega)).2
        exact p1.append (.two ⟨rfl, rfl, rfl, rfl, c3⟩ p3)
      · simp only [List.map_append, List.map_cons] at h7 ⊢
        exact h7
      · simp only [pendN_append, pendN_cons] at h9 ⊢
        first | omega | (simp; omega) | (simp [endedZ]; omega) | (simp [joinZ]; omega) | (simp [joinZ, endedZ]; omega)
theorem cut_two {g : List UInt8} {f t k : ByteArray} {R : List Sp} (hc : cutOk f t k = true) (h : Chain g ([(f, t)] ++ R)) : Chain g ([(f, k), (k, t)] ++ R) := by
  have := chain_cut (k := 0) (x := k) h (by simp) hc
  simpa using this
theorem done_inv {m m' : Mp} {i : Nat} {z : Zn} {c : Ch} (h : Inv m) (hi : m.zs[i]? = some z) (hm : doneM m i z c = some m') : Inv m' := by
  unfold doneM at hm
  split at hm
  · cases hm
  · rename_i hc
    simp only [not_or, Decidable.not_not] at hc
    obtain ⟨-, c3⟩ := hc
    obtain ⟨A, B, hl, rfl⟩ := cut_at hi
    obtain ⟨ver, next, zs⟩ := m
    simp only at *
    subst hl
    have hzo := h.ok z (by simp)
    have he := hzo.2.2.1
    split at hm
    · rename_i hp
      simp only [Option.some.injEq] at hm
      rw [List.take_left, List.drop_append, List.drop_of_length_le (by omega), show A.length + 1 - A.length = 1 by omega] at hm
      simp only [List.nil_append, List.drop_succ_cons, List.drop_zero] at hm
      subst hm
      have hck : cutOk z.fr z.to z.key = true := by
        rcases hzo.2.2.2.2 with h | h | h | h
        · omega
        · omega
        · exact h.2.2
        · omega
      have e : nums (A ++ { endedZ z (z.epoch + 1) with to := z.key } :: { endedZ z (z.epoch + 1) with fr := z.key, id := z.nw } :: B) = nums (A ++ z :: B) := by
        simp only [nums_append, nums_cons]
        rw [numsZ_split hp]
        rfl
      obtain ⟨h1, h2, h3, h4, h5, h6, h7, h8, h9⟩ := h
      simp only at *
      refine ⟨h1, h2, by rw [e]; exact h3, by rw [e]; exact h4, ?_, ?_, ?_, by rw [e]; exact h8, ?_⟩
      · intro y hy
        rw [List.mem_append, List.mem_cons, List.mem_cons] at hy
        rcases hy with hy | rfl | rfl | hy
        · exact h5 y (by simp [hy])
        · exact ⟨hzo.1, hzo.2.1, by simp only [endedZ]; omega, by simp only [endedZ]; omega, .inl ⟨rfl, rfl, rfl, rfl⟩⟩
        · exact ⟨hzo.1, hzo.2.1, by simp only [endedZ]; omega, by simp only [endedZ]; omega, .inl ⟨rfl, rfl, rfl, rfl⟩⟩
        · exact h5 y (by simp [hy])
      · obtain ⟨p1, p2⟩ := h6.part (by omega)
        exact p1.append (.one (by simp [endedZ]) (.one (by simp [endedZ]) p2))
      · simp only [List.map_append, List.map_cons] at h7 ⊢
        have := chain_swap (A := A.map spz) (L := [spz z]) (M := [(z.fr, z.key), (z.key, z.to)]) (B := B.map spz) (by simpa using h7) (by simp) (fun g R hg => cut_two hck hg)
        simp only [List.append_assoc, List.cons_append, List.nil_append] at this
        exact this
      · simp only [pendN_append, pendN_cons] at h9 ⊢
        first | omega | (simp; omega) | (simp [endedZ]; omega) | (simp [joinZ]; omega) | (simp [joinZ, endedZ]; omega)
    · split at hm
      · rename_i hp1 hp
        rw [List.getElem?_append_right (by omega), show A.length + 1 - A.length = 1 by omega] at hm
        cases B with
        | nil => simp at hm
        | cons o R =>
          simp only [List.getElem?_cons_succ, List.getElem?_cons_zero] at hm
          split at hm
          · cases hm
          · rename_i hc2
            simp only [not_or, Decidable.not_not] at hc2
            obtain ⟨c4, c5⟩ := hc2
            rw [List.take_left, List.drop_append, List.drop_of_length_le (by omega), show A.length + 2 - A.length = 2 by omega] at hm
            simp only [List.nil_append, List.drop_succ_cons, List.drop_zero, Option.some.injEq] at hm
            subst hm
            obtain ⟨h1, h2, h3, h4, h5, h6, h7, h8, h9⟩ := h
            simp only at *
            have hps : Pairs A ∧ Pairs R ∧ o.pend = 2 := by
              rcases h6.mate hp with ⟨b, R', e, q1, q2, q3⟩ | ⟨Q, a, e, q1, q2, q3⟩
              · simp only [List.cons.injEq] at e
                obtain ⟨rfl, rfl⟩ := e
                exact ⟨q2, q3, q1.2.1⟩
              · exfalso
                have e1 : a.id = o.id := by rw [← q1.2.2.2.1, c4]
                subst e
                have hnd : (nums (Q ++ [a] ++ z :: o :: R)).Nodup := h3
                rw [nums_append, nums_append] at hnd
                have ha : a.id ∈ nums Q ++ nums [a] := by rw [← nums_append]; exact id_mem (by simp)
                have ho : o.id ∈ nums (z :: o :: R) := id_mem (by simp)
                exact (List.nodup_append.1 hnd).2.2 _ ha _ ho e1
            have hop := hps.2.2
            have hoo := h5 o (by simp)
            have e : nums (A ++ joinZ z o :: R) = nums A ++ z.id :: nums R := by
              simp only [nums_append, nums_cons]; rfl
            have e2 : nums (A ++ z :: o :: R) = nums A ++ z.id :: o.id :: nums R := by
              simp only [nums_append, nums_cons]
              rw [numsZ_of (z := z) (by omega), numsZ_of (z := o) (by omega)]
              rfl
            have hsub : (nums (A ++ joinZ z o :: R)).Sublist (nums (A ++ z :: o :: R)) := by
              rw [e, e2]
              exact List.Sublist.append (List.Sublist.refl _) (List.Sublist.cons_cons _ (List.sublist_cons_self _ _))
            have hj : joinOk z.fr z.to o.fr o.to = true := by
              have : ∀ (f : List UInt8) (A : List Sp) (s t : Sp) (R : List Sp), Chain f (A ++ s :: t :: R) → joinOk s.1 s.2 t.1 t.2 = true := by
                intro f A s t R hch
                induction A generalizing f with
                | nil =>
                  obtain ⟨-, i1, i2⟩ := hch
                  rcases i2 with ⟨i2, -⟩ | ⟨i2, i3, i4, -⟩
                  · cases i2
                  · rw [joinOk_iff]; exact ⟨i1, i4, i2, i3.symm⟩
                | cons y A ih =>
                  obtain ⟨-, -, i2⟩ := hch
                  rcases i2 with ⟨i2, -⟩ | ⟨-, i3⟩
                  · simp at i2
                  · exact ih _ i3
              refine this [] (A.map spz) (spz z) (spz o) (R.map spz) ?_
              simpa using h7
            refine ⟨h1, h2, h3.sublist hsub, fun n hn => h4 n (hsub.subset hn), ?_, ?_, ?_, Nat.le_trans hsub.length_le h8, ?_⟩
            · intro y hy
              rw [List.mem_append, List.mem_cons] at hy
              rcases hy with hy | rfl | hy
              · exact h5 y (by simp [hy])
              · have := hoo.2.2.1
                exact ⟨hzo.1, hzo.2.1, by simp only [joinZ, endedZ]; omega, by simp only [joinZ, endedZ]; omega, .inl ⟨rfl, rfl, rfl, rfl⟩⟩
              · exact h5 y (by simp [hy])
            · exact hps.1.append (.one (by simp [joinZ, endedZ]) hps.2.1)
            · have hj2 := (joinOk_iff _ _ _ _).1 hj
              have := chain_swap (A := A.map spz) (L := [spz z, spz o]) (M := [(z.fr, o.to)]) (B := R.map spz) (by simpa using h7) (by simp) (fun g R hg => by
                obtain ⟨i1, i2, i3⟩ := hg
                rcases i3 with ⟨i3, -⟩ | ⟨i3, i4, i5, i6⟩
                · cases i3
                · refine ⟨i1, ?_, i6⟩
                  rw [isB_iff] at i2 i5 ⊢
                  refine ⟨i2.1, i5.2.1, ?_⟩
                  rcases i5.2.2 with i7 | i7
                  · exact .inl i7
                  · rcases i2.2.2 with i8 | i8
                    · exact absurd i8 i3
                    · refine .inr (bl_trans i8 ?_)
                      have i4' : o.fr.toList = z.to.toList := i4
                      show Op.bytesLess z.to.toList _ = true
                      rw [← i4']
                      exact i7)
              simp only [List.map_append, List.map_cons]
              have e3 : spz (joinZ z o) = (z.fr, o.to) := by simp only [spz, joinZ, endedZ, hj, sel, if_true]
              rw [e3]
              simpa using this
            · simp only [pendN_append, pendN_cons] at h9 ⊢
              first | omega | (simp; omega) | (simp [endedZ]; omega) | (simp [joinZ]; omega) | (simp [joinZ, endedZ]; omega)
      · split at hm
        · rename_i hp1 hp2 hp
          rw [set_at] at hm
          simp only [Option.some.injEq] at hm
          subst hm
          have ht : 1 ≤ z.tt ∧ z.tt ≤ 1048576 := by
            rcases hzo.2.2.2.2 with h | h | h | h
            · omega
            · omega
            · omega
            · omega
          refine h.same ⟨ht.1, ht.2, by simp only [endedZ]; omega, by simp only [endedZ]; omega, .inl ⟨rfl, rfl, rfl, rfl⟩⟩ rfl ⟨by omega, by simp [endedZ]⟩ ?_ ?_
          · rw [numsZ_of (z := z) (by omega)]; rfl
          · have := h.moves
            simp only [pendN_append, pendN_cons] at this ⊢
            first | omega | (simp; omega) | (simp [endedZ]; omega) | (simp [joinZ]; omega) | (simp [joinZ, endedZ]; omega)
        · cases hm
theorem change_inv {hosts : List Int} (hh : ∀ n ∈ hosts, 1 ≤ n ∧ n ≤ 1048576) {m m' : Mp} {i : Nat} {z : Zn} {c : Ch} (h : Inv m) (hi : m.zs[i]? = some z) (hm : changeM hosts m i z c = some m') : Inv m' := by
  unfold changeM at hm
  split at hm
  · exact split_inv h hi hm
  · split at hm
    · exact merge_inv h hi hm
    · split at hm
      · exact move_inv hh h hi hm
      · split at hm
        · exact done_inv h hi hm
        · exact abort_inv h hi hm
theorem change_ver {hosts : List Int} {m m' : Mp} {i : Nat} {z : Zn} {c : Ch} (hm : changeM hosts m i z c = some m') : m'.ver = m.ver := by
  simp only [changeM, splitM, mergeM, moveM, doneM, abortM] at hm
  repeat' split at hm
  all_goals first | cases hm; done | (simp only [Option.some.injEq] at hm; subst hm; rfl)
theorem apply_inv {hosts : List Int} (hh : ∀ n ∈ hosts, 1 ≤ n ∧ n ≤ 1048576) {m m' : Mp} {c : Ch} (h : Inv m) (hm : applyM hosts m c = some m') : Inv m' := by
  unfold applyM at hm
  split at hm
  · rename_i hc
    cases hf : findZ m.zs c.zone with
    | none => rw [hf] at hm; cases hm
    | some i =>
      rw [hf] at hm
      simp only at hm
      cases hi : m.zs[i]? with
      | none => rw [hi] at hm; cases hm
      | some z =>
        rw [hi] at hm
        simp only [Option.map_eq_some_iff] at hm
        obtain ⟨x, hx, rfl⟩ := hm
        have hv := change_ver hx
        obtain ⟨h1, h2, h3, h4, h5, h6, h7, h8, h9⟩ := change_inv hh h hi hx
        exact ⟨by simp only; omega, h2, h3, h4, h5, h6, h7, h8, h9⟩
  · cases hm
end Go.Proofs.Ytobnibdeimiinaa

/- What the document asks of a map holds of a directory's map. -/
namespace Go.Proofs.Ytobnibdeimiinaa

theorem find_mid {A B : List Zn} {z : Zn} {n : Int} (hz : z.id = n) (hA : ∀ y ∈ A, y.id ≠ n) : findZ (A ++ z :: B) n = some A.length := by
  induction A with
  | nil => simp [findZ, List.findIdx?_cons, hz]
  | cons a A ih =>
    have h1 : (a.id == n) = false := by rw [beq_eq_false_iff_ne]; exact hA a (by simp)
    have h2 := ih (fun y hy => hA y (by simp [hy]))
    unfold findZ at h2 ⊢
    rw [List.cons_append, List.findIdx?_cons, h1]
    simp [h2]
theorem find_out {l : List Zn} {n : Int} (h : ∀ y ∈ l, y.id ≠ n) : findZ l n = none := by
  unfold findZ
  rw [List.findIdx?_eq_none_iff]
  intro y hy
  rw [beq_eq_false_iff_ne]
  exact h y hy
theorem find_some {l : List Zn} {n : Int} {i : Nat} (h : findZ l n = some i) : ∃ z, l[i]? = some z ∧ z.id = n ∧ ∀ y ∈ l.take i, y.id ≠ n := by
  unfold findZ at h
  rw [List.findIdx?_eq_some_iff_getElem] at h
  obtain ⟨hi, h1, h2⟩ := h
  refine ⟨l[i], List.getElem?_eq_getElem hi, by simpa using h1, fun y hy => ?_⟩
  obtain ⟨j, hj, rfl⟩ := List.mem_iff_getElem.1 hy
  rw [List.length_take] at hj
  rw [List.getElem_take]
  have := h2 j (by omega)
  simpa using this
/-- A zone is found at its place. -/
theorem Inv.at {m : Mp} (h : Inv m) {i : Nat} {z : Zn} (hi : m.zs[i]? = some z) : findZ m.zs z.id = some i := by
  obtain ⟨A, B, hl, rfl⟩ := cut_at hi
  rw [hl]
  refine find_mid rfl (fun y hy e => ?_)
  have hnd := h.nd
  rw [hl, nums_append] at hnd
  exact (List.nodup_append.1 hnd).2.2 _ (id_mem hy) _ (id_mem (z := z) (by simp)) e
/-- A zone of a merge. -/
theorem Inv.mate {m : Mp} (h : Inv m) {i : Nat} {z : Zn} (hi : m.zs[i]? = some z) (hp : z.pend = 2) : ∃ k y, findZ m.zs z.nw = some k ∧ m.zs[k]? = some y ∧ (k = i + 1 ∨ k + 1 = i) ∧ y.pend = 2 ∧ y.nw = z.id ∧ y.owner = z.owner := by
  obtain ⟨A, B, hl, rfl⟩ := cut_at hi
  have hm := h.prs
  rw [hl] at hm
  rcases hm.mate hp with ⟨b, R, rfl, q1, -, -⟩ | ⟨Q, a, rfl, q1, -, -⟩
  · have hb : m.zs[A.length + 1]? = some b := by
      rw [hl, List.getElem?_append_right (by omega)]
      simp [show A.length + 1 - A.length = 1 by omega]
    refine ⟨A.length + 1, b, ?_, hb, .inl rfl, q1.2.1, q1.2.2.2.1, q1.2.2.2.2.symm⟩
    rw [q1.2.2.1]
    exact h.at hb
  · have ha : m.zs[Q.length]? = some a := by
      rw [hl]; simp
    refine ⟨Q.length, a, ?_, ha, .inr (by simp), q1.1, q1.2.2.1, q1.2.2.2.2⟩
    rw [q1.2.2.2.1]
    exact h.at ha
/-- A zone of a split. -/
theorem Inv.fresh {m : Mp} (h : Inv m) {i : Nat} {z : Zn} (hi : m.zs[i]? = some z) (hp : z.pend = 1) : findZ m.zs z.nw = none ∧ (1 ≤ z.nw ∧ z.nw < m.next) ∧ ∀ k y, m.zs[k]? = some y → k ≠ i → y.pend = 1 → y.nw ≠ z.nw := by
  have hz := List.mem_of_getElem? hi
  refine ⟨find_out fun y hy e => ?_, h.lt _ (nw_mem hz hp), fun k y hk hne hyp e => ?_⟩
  · obtain ⟨A, B, hl, rfl⟩ := cut_at hi
    have hnd := h.nd
    rw [hl, nums_append, nums_cons, numsZ_split hp] at hnd
    rw [hl] at hy
    have h1 := List.nodup_append.1 hnd
    have h2 := List.nodup_append.1 h1.2.1
    rw [List.mem_append, List.mem_cons] at hy
    rcases hy with hy | rfl | hy
    · exact h1.2.2 _ (id_mem hy) z.nw (by simp) e
    · have := h2.1
      simp [e] at this
    · exact h2.2.2 z.nw (by simp) _ (id_mem hy) e.symm
  · obtain ⟨A, B, hl, rfl⟩ := cut_at hi
    have hnd := h.nd
    rw [hl, nums_append, nums_cons, numsZ_split hp] at hnd
    have h1 := List.nodup_append.1 hnd
    have h2 := List.nodup_append.1 h1.2.1
    rw [hl] at hk
    rcases Nat.lt_or_ge k A.length with hlt | hge
    · rw [List.getElem?_append_left hlt] at hk
      exact h1.2.2 _ (nw_mem (List.mem_of_getElem? hk) hyp) z.nw (by simp) e
    · rw [List.getElem?_append_right hge] at hk
      obtain ⟨j, hj⟩ : ∃ j, k - A.length = j + 1 := ⟨k - A.length - 1, by omega⟩
      rw [hj, List.getElem?_cons_succ] at hk
      exact h2.2.2 z.nw (by simp) _ (nw_mem (List.mem_of_getElem? hk) hyp) e.symm
theorem Inv.all {m : Mp} (h : Inv m) : sAll (m.zs.map spz) = true := chain_all h.chain
theorem Inv.pos {m : Mp} (h : Inv m) : 0 < m.zs.length := by
  have := h.chain
  cases hz : m.zs with
  | nil => rw [hz] at this; exact this.elim
  | cons a r => simp
theorem Inv.len {m : Mp} (h : Inv m) : m.zs.length ≤ 16 := by have := h.room; rw [nums_length] at this; omega
/-- The first map. -/
def firstM (owner : Int) : Mp := ⟨1, 2, [⟨1, z0, z0, owner, 1, 0, 0, z0, 0⟩]⟩
theorem first_inv {owner : Int} (h1 : 1 ≤ owner) (h2 : owner ≤ 1048576) : Inv (firstM owner) := by
  refine ⟨⟨show (1 : Int) ≤ 1 by decide, show (1 : Int) ≤ 1099511627776 by decide⟩, ⟨show (1 : Int) ≤ 2 by decide, show (2 : Int) ≤ 1099511627776 by decide⟩, by simp [firstM, nums, numsZ], by simp [firstM, nums, numsZ], ?_, .one (by simp) .nil, chain_start, by simp [firstM, nums, numsZ], by simp [firstM, pendN]⟩
  intro z hz
  simp only [firstM, List.mem_cons, List.not_mem_nil, or_false] at hz
  subst hz
  exact ⟨h1, h2, by simp only; omega, by simp only; omega, .inl ⟨rfl, rfl, rfl, rfl⟩⟩
end Go.Proofs.Ytobnibdeimiinaa

/- What the document asks of a map, in plain Lean; it holds of a directory's map. -/
namespace Go.Proofs.Ytobnibdeimiinaa

def zq : Zn := ⟨0, z0, z0, 0, 0, 0, 0, z0, 0⟩
/-- Another zone's split is to have a number. -/
def clashB (l : List Zn) (i : Nat) (n : Int) : Bool := (List.range l.length).any fun k => decide (k ≠ i) && ((l.getD k zq).pend == 1 && (l.getD k zq).nw == n)
def splitsB (m : Mp) (i : Nat) (z : Zn) : Bool := cutOk z.fr z.to z.key && (decide (z.tt = 0 ∧ 1 ≤ z.nw ∧ z.nw < m.next) && ((findZ m.zs z.nw).isNone && !clashB m.zs i z.nw))
def mergesB (l : List Zn) (i : Nat) (z : Zn) : Bool := match findZ l z.nw with
  | none => false
  | some k => decide (z.tt = 0 ∧ z.key.toList = [] ∧ (k = i + 1 ∨ k + 1 = i)) && decide ((l.getD k zq).pend = 2 ∧ (l.getD k zq).nw = z.id ∧ (l.getD k zq).owner = z.owner)
def headB (m : Mp) (i : Nat) (z : Zn) : Bool := decide (1 ≤ z.id ∧ z.id < m.next ∧ findZ m.zs z.id = some i ∧ 1 ≤ z.owner ∧ z.owner ≤ 1048576 ∧ 1 ≤ z.epoch ∧ z.epoch ≤ 1099511627776)
def kindB (m : Mp) (i : Nat) (z : Zn) : Bool := if z.pend = 0 then decide (z.tt = 0 ∧ z.key.toList = [] ∧ z.nw = 0) else if z.pend = 3 then decide (1 ≤ z.tt ∧ z.tt ≤ 1048576 ∧ z.tt ≠ z.owner ∧ z.key.toList = [] ∧ z.nw = 0) else if z.pend = 1 then splitsB m i z else if z.pend = 2 then mergesB m.zs i z else false
def zoneB (m : Mp) (i : Nat) (z : Zn) : Bool := headB m i z && kindB m i z
def mayM (m : Mp) : Bool := decide (1 ≤ m.ver ∧ m.ver ≤ 1099511627776 ∧ 1 ≤ m.next ∧ m.next ≤ 1099511627776 ∧ m.zs.length ≤ 16) && (((List.range m.zs.length).all fun i => zoneB m i (m.zs.getD i zq)) && rAll (m.zs.map spz))
theorem clash_hit {l : List Zn} {i k : Nat} {n : Int} (h : k < l.length) (hk : k ≠ i) (h1 : l[k].pend = 1) (h2 : l[k].nw = n) : clashB l i n = true := by
  unfold clashB
  rw [List.any_eq_true]
  exact ⟨k, by simpa using h, by simp [h, hk, h1, h2]⟩
theorem clash_end {l : List Zn} {i : Nat} {n : Int} (h : ∀ k (hk : k < l.length), k ≠ i → l[k].pend = 1 → l[k].nw ≠ n) : clashB l i n = false := by
  unfold clashB
  rw [List.any_eq_false]
  intro k hk
  have hk : k < l.length := by simpa using hk
  have := h k hk
  simp only [List.getD_eq_getElem?_getD, List.getElem?_eq_getElem hk, Option.getD_some]
  simpa using this
theorem z0_toList : z0.toList = [] := by simp [z0]
theorem Inv.zoneB {m : Mp} (h : Inv m) {i : Nat} {z : Zn} (hi : m.zs[i]? = some z) : zoneB m i z = true := by
  have hz := List.mem_of_getElem? hi
  obtain ⟨o1, o2, o3, o4, o5⟩ := h.ok z hz
  have hid := h.lt _ (id_mem hz)
  have hf := h.at hi
  unfold Go.Proofs.Ytobnibdeimiinaa.zoneB
  rw [Bool.and_eq_true]
  refine ⟨by unfold headB; rw [decide_eq_true_eq]; exact ⟨hid.1, hid.2, hf, o1, o2, o3, o4⟩, ?_⟩
  unfold kindB
  rcases o5 with ⟨p, q1, q2, q3⟩ | ⟨p, q1, q2, q3, q4, q5⟩ | ⟨p, q1, q2⟩ | ⟨p, q1, q2⟩
  · rw [if_pos p, decide_eq_true_eq, q2]; exact ⟨q1, z0_toList, q3⟩
  · rw [if_neg (by omega), if_pos p, decide_eq_true_eq, q4]; exact ⟨q1, q2, q3, z0_toList, q5⟩
  · rw [if_neg (by omega), if_neg (by omega), if_pos p]
    obtain ⟨f1, f2, f3⟩ := h.fresh hi p
    unfold splitsB
    rw [q2, f1, clash_end (fun k hk hki hp => f3 k _ (List.getElem?_eq_getElem hk) hki hp)]
    simp [q1, f2.1, f2.2]
  · rw [if_neg (by omega), if_neg (by omega), if_neg (by omega), if_pos p]
    obtain ⟨k, y, m1, m2, m3, m4, m5, m6⟩ := h.mate hi p
    unfold mergesB
    rw [m1]
    simp only [List.getD_eq_getElem?_getD, m2, Option.getD_some]
    rw [Bool.and_eq_true, decide_eq_true_eq, decide_eq_true_eq, q2]
    exact ⟨⟨q1, z0_toList, m3⟩, m4, m5, m6⟩
theorem Inv.mayM {m : Mp} (h : Inv m) : mayM m = true := by
  unfold Go.Proofs.Ytobnibdeimiinaa.mayM
  rw [Bool.and_eq_true, Bool.and_eq_true, decide_eq_true_eq, List.all_eq_true]
  refine ⟨⟨h.ver.1, h.ver.2, h.next.1, h.next.2, h.len⟩, fun i hi => ?_, by rw [← all_same]; exact h.all⟩
  have hi : i < m.zs.length := by simpa using hi
  rw [List.getD_eq_getElem?_getD, List.getElem?_eq_getElem hi]
  exact h.zoneB (List.getElem?_eq_getElem hi)
theorem mayM_epoch {m : Mp} {i : Nat} {z : Zn} (hi : m.zs[i]? = some z) (h : 1099511627776 < z.epoch) : mayM m = false := by
  obtain ⟨hl, -⟩ := List.getElem?_eq_some_iff.1 hi
  unfold Go.Proofs.Ytobnibdeimiinaa.mayM
  rw [Bool.and_eq_false_iff, Bool.and_eq_false_iff]
  refine .inr (.inl ?_)
  rw [List.all_eq_false]
  refine ⟨i, by simpa using hl, ?_⟩
  rw [List.getD_eq_getElem?_getD, hi, Option.getD_some]
  unfold Go.Proofs.Ytobnibdeimiinaa.zoneB headB
  rw [decide_eq_false (by omega)]
  simp
/-- What the document's done does. -/
def doneR (m : Mp) (i : Nat) (z : Zn) : Option Mp :=
  if z.pend = 1 then some { m with zs := m.zs.take i ++ { endedZ z (z.epoch + 1) with to := z.key } :: { endedZ z (z.epoch + 1) with fr := z.key, id := z.nw } :: m.zs.drop (i + 1) }
  else if z.pend = 2 then (match m.zs[i + 1]? with
    | none => none
    | some o => if findZ m.zs z.nw ≠ some (i + 1) then none else some { m with zs := m.zs.take i ++ joinZ z o :: m.zs.drop (i + 2) })
  else if z.pend = 3 then some { m with zs := m.zs.set i { endedZ z (z.epoch + 1) with owner := z.tt } }
  else none
def changeR (hosts : List Int) (m : Mp) (i : Nat) (z : Zn) (c : Ch) : Option Mp :=
  if c.kind = 1 then splitM m i z c else if c.kind = 2 then mergeM m i z else if c.kind = 3 then moveM hosts m i z c
  else if c.kind = 4 then (if z.epoch ≠ c.epoch ∨ 1099511627776 ≤ z.epoch then none else doneR m i z) else abortM m i z c
theorem doneR_doneM {m : Mp} (h : Inv m) {i : Nat} {z : Zn} (hi : m.zs[i]? = some z) (c : Ch) (he : ¬ (z.epoch ≠ c.epoch ∨ 1099511627776 ≤ z.epoch)) : (doneR m i z).filter mayM = doneM m i z c := by
  have hinv := fun m' hm' => done_inv h hi (c := c) (m' := m') hm'
  unfold doneM at hinv ⊢
  rw [if_neg he] at hinv ⊢
  unfold doneR
  by_cases p1 : z.pend = 1
  · rw [if_pos p1] at hinv ⊢
    rw [if_pos p1, Option.filter_some, if_pos (hinv _ rfl).mayM]
  · rw [if_neg p1] at hinv ⊢
    rw [if_neg p1]
    by_cases p2 : z.pend = 2
    · rw [if_pos p2] at hinv ⊢
      rw [if_pos p2]
      cases ho : m.zs[i + 1]? with
      | none => rfl
      | some o =>
        rw [ho] at hinv
        simp only at hinv ⊢
        have hfo := h.at ho
        by_cases e : o.id = z.nw
        · rw [e] at hfo
          rw [if_neg (by simp [hfo])]
          by_cases e2 : 1099511627776 ≤ max z.epoch o.epoch
          · rw [if_pos (Or.inr e2), Option.filter_some, if_neg]
            have hb : i < m.zs.length := (List.getElem?_eq_some_iff.1 hi).1
            rw [mayM_epoch (i := i) (z := joinZ z o) (by simp [List.length_take, Nat.min_eq_left (Nat.le_of_lt hb)]) (by show (1099511627776 : Int) < max z.epoch o.epoch + 1; omega)]
            decide
          · rw [if_neg (by simp only [not_or, Decidable.not_not]; exact ⟨e, e2⟩)] at hinv ⊢
            rw [Option.filter_some, if_pos (hinv _ rfl).mayM]
        · rw [if_pos (Or.inl e)]
          rw [if_pos]
          · rfl
          · intro hf
            obtain ⟨y, hy, hy2, -⟩ := find_some hf
            rw [ho] at hy
            exact e (by rw [Option.some.inj hy]; exact hy2)
    · rw [if_neg p2] at hinv ⊢
      rw [if_neg p2]
      by_cases p3 : z.pend = 3
      · rw [if_pos p3] at hinv ⊢
        rw [Option.filter_some, if_pos (hinv _ rfl).mayM]
      · rw [if_neg p3]; rfl
/-- The document's way and the program's come to the same. -/
theorem changeR_changeM {hosts : List Int} (hh : ∀ n ∈ hosts, 1 ≤ n ∧ n ≤ 1048576) {m : Mp} (h : Inv m) {i : Nat} {z : Zn} (hi : m.zs[i]? = some z) (c : Ch) : (changeR hosts m i z c).filter mayM = changeM hosts m i z c := by
  have hinv := fun m' hm' => change_inv hh h hi (c := c) (m' := m') hm'
  have key : ∀ x : Option Mp, (∀ m', x = some m' → Inv m') → x.filter mayM = x := by
    intro x hx
    cases x with
    | none => rfl
    | some y => rw [Option.filter_some, if_pos (hx y rfl).mayM]
  unfold changeR changeM at *
  split
  · rename_i k; rw [if_pos k] at hinv; exact key _ hinv
  · rename_i k1; rw [if_neg k1] at hinv
    split
    · rename_i k; rw [if_pos k] at hinv; exact key _ hinv
    · rename_i k2; rw [if_neg k2] at hinv
      split
      · rename_i k; rw [if_pos k] at hinv; exact key _ hinv
      · rename_i k3; rw [if_neg k3] at hinv
        split
        · by_cases he : z.epoch ≠ c.epoch ∨ 1099511627776 ≤ z.epoch
          · rw [if_pos he]; unfold doneM; rw [if_pos he]; rfl
          · rw [if_neg he]; exact doneR_doneM h hi c he
        · rename_i k4; rw [if_neg k4] at hinv; exact key _ hinv
end Go.Proofs.Ytobnibdeimiinaa
