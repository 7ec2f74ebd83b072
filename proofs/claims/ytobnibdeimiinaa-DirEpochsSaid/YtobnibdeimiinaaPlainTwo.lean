/- What All comes to, in both forms; that both say the same. -/
import Derived.Test.YtobnibdeimiinaaPlain
namespace Go.Proofs.Ytobnibdeimiinaa
abbrev Sp := ByteArray × ByteArray
def emptyB : ByteArray := ⟨#[]⟩
/-- What package span's All comes to from the second span on; 'a': what the first ones are together. -/
def sGo (a : Sp) : List Sp → Option Sp
  | [] => some a
  | s :: r => if joinOk a.1 a.2 s.1 s.2 then sGo (a.1, s.2) r else none
def endB (a : Sp) : Bool := isB a.1 a.2 && (a.1.toList.isEmpty && a.2.toList.isEmpty)
def sAll : List Sp → Bool
  | [] => false
  | s :: r => match sGo s r with
    | none => false
    | some a => endB a
/-- What the reference's All comes to; 'at': where the next one has to begin. -/
def rGo (atB : List UInt8) : List Sp → Option (List UInt8)
  | [] => some atB
  | s :: r => if isB s.1 s.2 && (s.1.toList == atB) && !atB.isEmpty then rGo s.2.toList r else none
def finR : Option (List UInt8) → Bool
  | none => false
  | some e => e.isEmpty
def rAll : List Sp → Bool
  | [] => false
  | s :: r => if isB s.1 s.2 && s.1.toList.isEmpty then finR (rGo s.2.toList r) else false

theorem joinOk_iff (f t f' t' : ByteArray) : joinOk f t f' t' = true ↔ isB f t = true ∧ isB f' t' = true ∧ t.toList ≠ [] ∧ t.toList = f'.toList := by
  simp [joinOk, and_assoc]
theorem isB_from {f g t : ByteArray} (h : isB g t = true) (hf : f.toList = []) : isB f t = true := by
  rw [isB_iff] at *
  refine ⟨?_, h.2.1, ?_⟩
  · have : f.size = 0 := by
      rw [ByteArray.toList_eq] at hf
      show f.data.size = 0
      rw [← Array.length_toList, hf]; rfl
    omega
  · rcases h.2.2 with h | h
    · exact .inl h
    · right
      rw [hf]
      exact bl_of_nil fun e => by rw [e, bl_nil] at h; cases h

theorem sGo_rGo (f t : ByteArray) (r : List Sp) (hf : f.toList = []) (h : isB f t = true) :
    (match sGo (f, t) r with | none => false | some a => endB a) = finR (rGo t.toList r) := by
  induction r generalizing t with
  | nil => simp [sGo, rGo, finR, endB, h, hf]
  | cons s r ih =>
    simp only [sGo, rGo]
    have e : joinOk f t s.1 s.2 = (isB s.1 s.2 && (s.1.toList == t.toList) && !t.toList.isEmpty) := by
      rw [Bool.eq_iff_iff, joinOk_iff]
      simp only [h, true_and, Bool.and_eq_true, beq_iff_eq, Bool.not_eq_true', List.isEmpty_eq_false_iff]
      constructor
      · rintro ⟨a, b, c⟩; exact ⟨⟨a, c.symm⟩, b⟩
      · rintro ⟨⟨a, c⟩, b⟩; exact ⟨a, b, c.symm⟩
    rw [e]
    by_cases hc : (isB s.1 s.2 && (s.1.toList == t.toList) && !t.toList.isEmpty) = true
    · rw [if_pos hc, if_pos hc]
      simp only [Bool.and_eq_true] at hc
      exact ih s.2 (isB_from hc.1.1 hf)
    · rw [if_neg hc, if_neg hc]; rfl
theorem sGo_none (f t : ByteArray) (r : List Sp) (hf : f.toList ≠ []) : (match sGo (f, t) r with | none => false | some a => endB a) = false := by
  induction r generalizing t with
  | nil => simp [sGo, endB, hf]
  | cons s r ih =>
    simp only [sGo]
    by_cases hc : joinOk f t s.1 s.2 = true
    · rw [if_pos hc]; exact ih s.2
    · rw [if_neg hc]
theorem sGo_bad (f t : ByteArray) (r : List Sp) (h : isB f t = false) : (match sGo (f, t) r with | none => false | some a => endB a) = false := by
  cases r with
  | nil => simp [sGo, endB, h]
  | cons s r =>
    have : joinOk f t s.1 s.2 = false := by simp [joinOk, h]
    simp [sGo, this]
/-- Both say the same. -/
theorem all_same (l : List Sp) : sAll l = rAll l := by
  cases l with
  | nil => rfl
  | cons s r =>
    obtain ⟨s1, s2⟩ := s
    show (match sGo (s1, s2) r with | none => false | some a => endB a) = (if isB s1 s2 && s1.toList.isEmpty then finR (rGo s2.toList r) else false)
    by_cases hf : s1.toList = []
    · cases h : isB s1 s2 with
      | false => rw [sGo_bad s1 s2 r h]; simp
      | true => rw [sGo_rGo s1 s2 r hf h]; simp [hf]
    · rw [sGo_none s1 s2 r hf]; simp [hf]
end Go.Proofs.Ytobnibdeimiinaa
