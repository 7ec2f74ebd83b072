/- Cuts of all keys: they stay a chain from key to key, and each key lies in just one. -/
import Derived.Test.YtobnibdeimiinaaPlainTwo
namespace Go.Proofs.Ytobnibdeimiinaa
/-- Spans one behind the other, from f on to the end of all keys. -/
def Chain (f : List UInt8) : List Sp → Prop
  | [] => False
  | s :: r => s.1.toList = f ∧ isB s.1 s.2 = true ∧ ((r = [] ∧ s.2.toList = []) ∨ (s.2.toList ≠ [] ∧ Chain s.2.toList r))
theorem chain_start : Chain [] [((⟨#[]⟩ : ByteArray), (⟨#[]⟩ : ByteArray))] := ⟨by decide +kernel, by decide +kernel, .inl ⟨rfl, by decide +kernel⟩⟩
theorem chain_fin {s : Sp} {r : List Sp} (h : (r = [] ∧ s.2.toList = []) ∨ (s.2.toList ≠ [] ∧ Chain s.2.toList r)) : finR (rGo s.2.toList r) = true := by
  induction r generalizing s with
  | nil =>
    rcases h with ⟨-, h⟩ | ⟨-, h⟩
    · simp [rGo, finR, h]
    · exact h.elim
  | cons t r ih =>
    rcases h with ⟨h, -⟩ | ⟨h1, h2, h3, h4⟩
    · cases h
    · have : (isB t.1 t.2 && (t.1.toList == s.2.toList) && !s.2.toList.isEmpty) = true := by simp [h3, h2, h1]
      simp only [rGo, this, if_true]
      exact ih h4
theorem chain_all {l : List Sp} (h : Chain [] l) : sAll l = true := by
  rw [all_same]
  cases l with
  | nil => exact h.elim
  | cons s r =>
    obtain ⟨h1, h2, h3⟩ := h
    simp only [rAll, h1, h2]
    simpa using chain_fin h3
theorem chain_cut {f : List UInt8} {l : List Sp} {k : Nat} (h : Chain f l) (hk : k < l.length) {x : ByteArray} (hc : cutOk l[k].1 l[k].2 x = true) : Chain f (l.take k ++ [(l[k].1, x), (x, l[k].2)] ++ l.drop (k + 1)) := by
  induction l generalizing f k with
  | nil => simp at hk
  | cons s r ih =>
    obtain ⟨h1, h2, h3⟩ := h
    cases k with
    | zero =>
      simp only [List.getElem_cons_zero] at hc
      obtain ⟨i1, i2, hj, -, -⟩ := cut_parts hc
      rw [joinOk_iff] at hj
      refine ⟨h1, i1, .inr ⟨hj.2.2.1, rfl, i2, ?_⟩⟩
      simpa using h3
    | succ k =>
      simp only [List.getElem_cons_succ] at hc
      have hk' : k < r.length := by simpa using hk
      rcases h3 with ⟨h3, -⟩ | ⟨h3, h4⟩
      · subst h3; simp at hk'
      · exact ⟨h1, h2, .inr ⟨h3, ih h4 hk' hc⟩⟩
theorem cut_length {l : List Sp} {k : Nat} (hk : k < l.length) (a b : Sp) : (l.take k ++ [a, b] ++ l.drop (k + 1)).length = l.length + 1 := by
  simp only [List.length_append, List.length_take, List.length_drop, List.length_cons, List.length_nil]; omega
def cnt (x : ByteArray) (l : List Sp) : Nat := (l.filter fun s => inB s.1 s.2 x).length
theorem cnt_le (x : ByteArray) (l : List Sp) : cnt x l ≤ l.length := List.length_filter_le _ _
theorem cnt_next (x : ByteArray) (l : List Sp) (k : Nat) (h : k < l.length) : cnt x (l.take (k + 1)) = cnt x (l.take k) + if inB l[k].1 l[k].2 x then 1 else 0 := by
  unfold cnt
  rw [List.take_succ_eq_append_getElem h, List.filter_append, List.length_append, List.filter_cons]
  cases inB l[k].1 l[k].2 x <;> rfl
theorem chain_cnt {f : List UInt8} {l : List Sp} {x : ByteArray} (h : Chain f l) (h1 : (1 : Int) ≤ x.size) (h2 : (x.size : Int) ≤ 16) :
    (Op.bytesLess x.toList f = false → cnt x l = 1) ∧ (Op.bytesLess x.toList f = true → cnt x l = 0) := by
  induction l generalizing f with
  | nil => exact h.elim
  | cons s r ih =>
    obtain ⟨e, hi, h3⟩ := h
    have hin : inB s.1 s.2 x = true ↔ Op.bytesLess x.toList f = false ∧ (s.2.toList = [] ∨ Op.bytesLess x.toList s.2.toList = true) := by
      rw [inB_iff, e]; simp [hi, h1, h2]
    have hc : cnt x (s :: r) = (if inB s.1 s.2 x then 1 else 0) + cnt x r := by
      unfold cnt
      rw [List.filter_cons]
      split <;> simp [Nat.add_comm]
    rcases h3 with ⟨rfl, h4⟩ | ⟨h4, h5⟩
    · have h0 : cnt x [] = 0 := rfl
      refine ⟨fun h => ?_, fun h => ?_⟩
      · rw [hc, h0, if_pos (hin.2 ⟨h, .inl h4⟩)]
      · rw [hc, h0, if_neg (fun a => by rw [hin, h] at a; exact absurd a.1 (by simp))]
    · obtain ⟨a, b⟩ := ih h5
      have hlt : Op.bytesLess f s.2.toList = true := by
        rw [isB_iff, e] at hi
        rcases hi.2.2 with h | h
        · exact absurd h h4
        · exact h
      refine ⟨fun h => ?_, fun h => ?_⟩
      · cases l : Op.bytesLess x.toList s.2.toList with
        | true => rw [hc, if_pos (hin.2 ⟨h, .inr l⟩), b l]
        | false => rw [hc, if_neg (fun c => by rw [hin, l] at c; rcases c.2 with c | c; exact h4 c; cases c), a l]
      · rw [hc, if_neg (fun c => by rw [hin, h] at c; exact absurd c.1 (by simp)), b (bl_trans h hlt)]
theorem chain_one {l : List Sp} {x : ByteArray} (h : Chain [] l) (h1 : (1 : Int) ≤ x.size) (h2 : (x.size : Int) ≤ 16) : cnt x l = 1 := (chain_cnt h h1 h2).1 (bl_nil _)
end Go.Proofs.Ytobnibdeimiinaa
