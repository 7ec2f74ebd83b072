/- What NetKeeps looks for: which messages have not come yet. -/
import Derived.Test.YtcboflabjdiadaaNetC
namespace Go.Proofs.Ytcboflabjdiadaa
open Go.RowKit

/-- The messages that have not come. -/
def left : List Bool → List Ct → List Ct
  | false :: o, c :: l => c :: left o l
  | true :: o, _ :: l => left o l
  | _, _ => []
theorem left_all : ∀ (l : List Ct), left (List.replicate l.length false) l = l
  | [] => rfl
  | c :: l => by
    show c :: left (List.replicate l.length false) l = _
    rw [left_all l]
theorem left_mem : ∀ {o : List Bool} {l : List Ct} {c : Ct}, c ∈ left o l → ∃ k, ∃ (h1 : k < o.length) (h2 : k < l.length), o[k] = false ∧ l[k] = c
  | [], l, c, h => by simp [left] at h
  | b :: o, [], c, h => by cases b <;> simp [left] at h
  | false :: o, d :: l, c, h => by
    rcases List.mem_cons.1 h with e | h
    · exact ⟨0, by simp, by simp, rfl, e.symm⟩
    · obtain ⟨k, h1, h2, h3, h4⟩ := left_mem h
      exact ⟨k + 1, by simpa using h1, by simpa using h2, h3, h4⟩
  | true :: o, d :: l, c, h => by
    obtain ⟨k, h1, h2, h3, h4⟩ := left_mem (o := o) (l := l) h
    exact ⟨k + 1, by simpa using h1, by simpa using h2, h3, h4⟩
theorem left_set : ∀ {o : List Bool} {l : List Ct} (k : Nat) (h1 : k < o.length) (h2 : k < l.length), o[k] = false → (left o l).Perm (l[k] :: left (o.set k true) l)
  | [], l, k, h1, _, _ => absurd h1 (Nat.not_lt_zero _)
  | b :: o, [], k, _, h2, _ => absurd h2 (Nat.not_lt_zero _)
  | false :: o, d :: l, 0, _, _, _ => List.Perm.refl _
  | true :: o, d :: l, 0, _, _, h => by cases h
  | false :: o, d :: l, k + 1, h1, h2, h => by
    have := left_set (o := o) (l := l) k (by simpa using h1) (by simpa using h2) h
    exact (List.Perm.cons d this).trans (List.Perm.swap _ _ _)
  | true :: o, d :: l, k + 1, h1, h2, h => left_set (o := o) (l := l) k (by simpa using h1) (by simpa using h2) h
theorem erase_permC {l : List Ct} {i : Nat} (hi : i < l.length) : l.Perm (l[i] :: l.eraseIdx i) := by
  have e : l = l.take i ++ l[i] :: l.drop (i + 1) := by rw [← List.drop_eq_getElem_cons hi, List.take_append_drop]
  rw [List.eraseIdx_eq_take_drop_succ]
  exact (List.Perm.of_eq e).trans List.perm_middle
/-- Two messages as the law compares them. -/
def eqC (a b : Ct) : Bool := a.1 == b.1 && a.2.1 == b.2.1 && a.2.2.1 == b.2.2.1
theorem eqC_eq {a b : Ct} (h : eqC a b = true) (ha : a.2.2.2 = false) (hb : b.2.2.2 = false) : a = b := by
  obtain ⟨f, t, l, s⟩ := a
  obtain ⟨f', t', l', s'⟩ := b
  simp only [eqC, Bool.and_eq_true, beq_iff_eq] at h
  obtain ⟨⟨rfl, rfl⟩, rfl⟩ := h
  simp only at ha hb
  rw [ha, hb]
theorem eqC_refl (a : Ct) : eqC a a = true := by simp [eqC]
/-- What has been found fits. -/
def fitsAt (O : List Bool) (Lc : List Ct) (c : Ct) (k : Nat) : Prop := ∃ (h1 : k < O.length) (h2 : k < Lc.length), O[k] = false ∧ eqC Lc[k] c = true
theorem found {O : List Bool} {Lc C : List Ct} (hp : C.Perm (left O Lc)) {i : Nat} (hi : i < C.length) : ∃ k, fitsAt O Lc C[i] k := by
  have hm : C[i] ∈ left O Lc := hp.mem_iff.1 (List.getElem_mem hi)
  obtain ⟨k, h1, h2, h3, h4⟩ := left_mem hm
  exact ⟨k, h1, h2, h3, by rw [h4]; exact eqC_refl _⟩
theorem next_left {O : List Bool} {Lc C : List Ct} (hp : C.Perm (left O Lc)) (hs : ∀ c ∈ Lc, c.2.2.2 = false) {i k : Nat} (hi : i < C.length) (hf : fitsAt O Lc C[i] k) : (C.eraseIdx i).Perm (left (O.set k true) Lc) := by
  obtain ⟨h1, h2, h3, h4⟩ := hf
  have hm : C[i] ∈ left O Lc := hp.mem_iff.1 (List.getElem_mem hi)
  obtain ⟨k', h1', h2', h3', h4'⟩ := left_mem hm
  have hcs : C[i].2.2.2 = false := by rw [← h4']; exact hs _ (List.getElem_mem h2')
  have he : Lc[k] = C[i] := eqC_eq h4 (hs _ (List.getElem_mem h2)) hcs
  have hl := left_set k h1 h2 h3
  rw [he] at hl
  exact ((erase_permC hi).symm.trans (hp.trans hl)).cons_inv
end Go.Proofs.Ytcboflabjdiadaa
