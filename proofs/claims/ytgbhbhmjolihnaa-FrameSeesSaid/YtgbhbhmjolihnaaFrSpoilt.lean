/- Plain: a record of which one byte is another one is refused. -/
import Derived.Test.YtgbhbhmjolihnaaFrPlain
namespace Go.Proofs.Ytgbhbhmjolihnaa

theorem fourB_inj {a b : Nat} (ha : a < 4294967296) (hb : b < 4294967296) (h : fourB a = fourB b) : a = b := by
  have h1 := unFour_four a ha []
  have h2 := unFour_four b hb []
  rw [List.append_nil] at h1 h2
  rw [← h1, ← h2, h]
theorem set_ne {l : List UInt8} {i : Nat} (hi : i < l.length) {c : UInt8} (hc : c ≠ l[i]) : l.set i c ≠ l := fun h => by
  have h1 : (l.set i c)[i]'(by simpa using hi) = c := by simp
  have h2 : (l.set i c)[i]'(by simpa using hi) = l[i] := by simp only [h]
  exact hc (h1.symm.trans h2)
theorem head_spoilt {n u i : Nat} {c : UInt8} (hn : n < 4294967296) (hu : u < 4294967296) (hi : i < (headB n).length) (hc : c ≠ (headB n)[i]) : (headB n).set i c ≠ headB u := by
  intro h
  have h4 : (fourB n).length = 4 := rfl
  have hs := sumOf_lt (fourB n)
  have hs' := sumOf_lt (fourB u)
  by_cases h1 : i < 4
  · have e1 : (headB n).set i c = (fourB n).set i c ++ fourB (sumOf (fourB n)) := by
      unfold headB; rw [List.set_append, if_pos (by omega)]
    rw [e1] at h
    unfold headB at h
    obtain ⟨g1, g2⟩ := List.append_inj h (by simp [fourB])
    have g3 := fourB_inj hs hs' g2
    have hc' : c ≠ (fourB n)[i]'(by omega) := by
      have : (headB n)[i] = (fourB n)[i]'(by omega) := by simp only [headB]; rw [List.getElem_append_left (by omega)]
      rwa [this] at hc
    exact sum_differs (fourB n) i (by omega) c hc' (by rw [g1]; exact g3.symm)
  · have e1 : (headB n).set i c = fourB n ++ (fourB (sumOf (fourB n))).set (i - 4) c := by
      unfold headB; rw [List.set_append, if_neg (by omega)]; rfl
    rw [e1] at h
    unfold headB at h
    obtain ⟨g1, g2⟩ := List.append_inj h rfl
    have g3 := fourB_inj hn hu g1
    subst g3
    have hi8 : i < 8 := hi
    have hlt : i - 4 < (fourB (sumOf (fourB n))).length := by rw [fourB_length]; omega
    refine set_ne hlt (c := c) ?_ g2
    have : (headB n)[i] = (fourB (sumOf (fourB n)))[i - 4]'hlt := by simp only [headB]; rw [List.getElem_append_right (by omega)]; rfl
    exact fun hh => hc (hh.trans this.symm)
theorem dec_spoilt (p more : List UInt8) (hp : p.length ≤ 1048576) (i : Nat) (hi : i < (frameB p).length) (c : UInt8) (hc : c ≠ (frameB p)[i]) : (decB ((frameB p).set i c ++ more)).2.2 ≠ 0 := by
  intro h
  obtain ⟨W, hW⟩ : ∃ W, W = headB p.length ++ p := ⟨_, rfl⟩
  have hF : frameB p = W ++ fourB (sumOf W) := by rw [hW]; rfl
  have hWl : W.length = 8 + p.length := by rw [hW, List.length_append, headB_length]
  have hFl := frameB_length p
  obtain ⟨L, hL⟩ : ∃ L, L = (frameB p).set i c ++ more := ⟨_, rfl⟩
  rw [← hL] at h
  have hLl : L.length = p.length + 12 + more.length := by rw [hL, List.length_append, List.length_set, hFl]
  unfold decB at h
  rw [if_neg (by omega)] at h
  by_cases h1 : L.take 8 ≠ headB (unFour L)
  · rw [if_pos h1] at h; cases h
  rw [if_neg h1] at h
  have h1' : L.take 8 = headB (unFour L) := Classical.byContradiction h1
  have ht8 : L.take 8 = if i < 8 then (headB p.length).set i c else headB p.length := by
    rw [hL, List.take_append_of_le_length (by rw [List.length_set]; omega), hF, hW]
    have e8 : (headB p.length).length = 8 := rfl
    simp only [List.append_assoc, List.set_append, e8]
    split
    · exact List.take_left' (by rw [List.length_set]; rfl)
    · exact List.take_left' rfl
  by_cases hi8 : i < 8
  · rw [if_pos hi8] at ht8
    refine head_spoilt (n := p.length) (u := unFour L) (i := i) (c := c) (by omega) (unFour_lt _) (by rw [headB_length]; exact hi8) ?_ (ht8.symm.trans h1')
    have : (frameB p)[i] = (headB p.length)[i]'(by rw [headB_length]; exact hi8) := by
      simp only [frameB]
      rw [List.getElem_append_left (by rw [List.length_append, headB_length]; omega), List.getElem_append_left (by rw [headB_length]; exact hi8)]
    rwa [this] at hc
  · rw [if_neg hi8] at ht8
    have hu : unFour L = p.length := by
      have h2 := h1'.symm.trans ht8
      have h3 := (List.append_inj (show fourB (unFour L) ++ fourB (sumOf (fourB (unFour L))) = fourB p.length ++ fourB (sumOf (fourB p.length)) from h2) rfl).1
      exact fourB_inj (unFour_lt _) (by omega) h3
    rw [hu, if_neg (by omega), if_neg (by omega)] at h
    by_cases h5 : unFour (L.drop (8 + p.length)) ≠ sumOf (L.take (8 + p.length))
    · rw [if_pos h5] at h; cases h
    have h5' : unFour (L.drop (8 + p.length)) = sumOf (L.take (8 + p.length)) := Classical.byContradiction h5
    by_cases hin : i < 8 + p.length
    · have e1 : L = W.set i c ++ (fourB (sumOf W) ++ more) := by
        rw [hL, hF, List.set_append, if_pos (by omega), List.append_assoc]
      have hwl : (W.set i c).length = 8 + p.length := by rw [List.length_set, hWl]
      have e2 : L.take (8 + p.length) = W.set i c := by rw [e1]; exact List.take_left' hwl
      have e3 : L.drop (8 + p.length) = fourB (sumOf W) ++ more := by rw [e1]; exact List.drop_left' hwl
      rw [e2, e3, unFour_four _ (sumOf_lt _)] at h5'
      refine sum_differs W i (by omega) c ?_ h5'.symm
      have : (frameB p)[i] = W[i]'(by omega) := by simp only [hF]; rw [List.getElem_append_left (by omega)]
      rwa [this] at hc
    · have hj : i - W.length < (fourB (sumOf W)).length := by rw [fourB_length]; omega
      have e1 : L = W ++ ((fourB (sumOf W)).set (i - W.length) c ++ more) := by
        rw [hL, hF, List.set_append, if_neg (by omega), List.append_assoc]
      have e2 : L.take (8 + p.length) = W := by rw [e1]; exact List.take_left' hWl
      have e3 : L.drop (8 + p.length) = (fourB (sumOf W)).set (i - W.length) c ++ more := by rw [e1]; exact List.drop_left' hWl
      have e4 := four_unFour (l := (fourB (sumOf W)).set (i - W.length) c ++ more) (by rw [List.length_append, List.length_set, fourB_length]; omega)
      rw [e2, e3] at h5'
      rw [h5', List.take_left' (by rw [List.length_set]; rfl)] at e4
      refine set_ne hj (c := c) ?_ e4.symm
      have : (frameB p)[i] = (fourB (sumOf W))[i - W.length]'hj := by simp only [hF]; rw [List.getElem_append_right (by omega)]
      rwa [this] at hc
end Go.Proofs.Ytgbhbhmjolihnaa
