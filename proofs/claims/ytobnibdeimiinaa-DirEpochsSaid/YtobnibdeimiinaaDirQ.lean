/- What the document asks of a map holds of a directory's map. -/
import Derived.Test.YtobnibdeimiinaaDirP
namespace Go.Proofs.Ytobnibdeimiinaa

theorem find_mid {A B : List Zn} {z : Zn} {n : Int} (hz : z.id = n) (hA : ∀ y ∈ A, y.id ≠ n) : findZ (A ++ z :: B) n = some A.length := by
  induction A with
  | nil => simp [findZ, List.findIdx?_cons, hz]
  | cons a A ih =>
    have h1 : (a.id == n) = false := by rw [beq_eq_false_iff_ne]; exact hA a (by simp)
    have h2 := ih (fun y hy => hA y (by simp [hy]))
    unfold findZ at h2 ⊢
    rw [List.cons_append, List.findIdx?_cons, h1]
    simp [h2]
theorem find_out {l : List Zn} {n : Int} (h : ∀ y ∈ l, y.id ≠ n) : findZ l n = none := by
  unfold findZ
  rw [List.findIdx?_eq_none_iff]
  intro y hy
  rw [beq_eq_false_iff_ne]
  exact h y hy
theorem find_some {l : List Zn} {n : Int} {i : Nat} (h : findZ l n = some i) : ∃ z, l[i]? = some z ∧ z.id = n ∧ ∀ y ∈ l.take i, y.id ≠ n := by
  unfold findZ at h
  rw [List.findIdx?_eq_some_iff_getElem] at h
  obtain ⟨hi, h1, h2⟩ := h
  refine ⟨l[i], List.getElem?_eq_getElem hi, by simpa using h1, fun y hy => ?_⟩
  obtain ⟨j, hj, rfl⟩ := List.mem_iff_getElem.1 hy
  rw [List.length_take] at hj
  rw [List.getElem_take]
  have := h2 j (by omega)
  simpa using this
/-- A zone is found at its place. -/
theorem Inv.at {m : Mp} (h : Inv m) {i : Nat} {z : Zn} (hi : m.zs[i]? = some z) : findZ m.zs z.id = some i := by
  obtain ⟨A, B, hl, rfl⟩ := cut_at hi
  rw [hl]
  refine find_mid rfl (fun y hy e => ?_)
  have hnd := h.nd
  rw [hl, nums_append] at hnd
  exact (List.nodup_append.1 hnd).2.2 _ (id_mem hy) _ (id_mem (z := z) (by simp)) e
/-- A zone of a merge. -/
theorem Inv.mate {m : Mp} (h : Inv m) {i : Nat} {z : Zn} (hi : m.zs[i]? = some z) (hp : z.pend = 2) : ∃ k y, findZ m.zs z.nw = some k ∧ m.zs[k]? = some y ∧ (k = i + 1 ∨ k + 1 = i) ∧ y.pend = 2 ∧ y.nw = z.id ∧ y.owner = z.owner := by
  obtain ⟨A, B, hl, rfl⟩ := cut_at hi
  have hm := h.prs
  rw [hl] at hm
  rcases hm.mate hp with ⟨b, R, rfl, q1, -, -⟩ | ⟨Q, a, rfl, q1, -, -⟩
  · have hb : m.zs[A.length + 1]? = some b := by
      rw [hl, List.getElem?_append_right (by omega)]
      simp [show A.length + 1 - A.length = 1 by omega]
    refine ⟨A.length + 1, b, ?_, hb, .inl rfl, q1.2.1, q1.2.2.2.1, q1.2.2.2.2.symm⟩
    rw [q1.2.2.1]
    exact h.at hb
  · have ha : m.zs[Q.length]? = some a := by
      rw [hl]; simp
    refine ⟨Q.length, a, ?_, ha, .inr (by simp), q1.1, q1.2.2.1, q1.2.2.2.2⟩
    rw [q1.2.2.2.1]
    exact h.at ha
/-- A zone of a split. -/
theorem Inv.fresh {m : Mp} (h : Inv m) {i : Nat} {z : Zn} (hi : m.zs[i]? = some z) (hp : z.pend = 1) : findZ m.zs z.nw = none ∧ (1 ≤ z.nw ∧ z.nw < m.next) ∧ ∀ k y, m.zs[k]? = some y → k ≠ i → y.pend = 1 → y.nw ≠ z.nw := by
  have hz := List.mem_of_getElem? hi
  refine ⟨find_out fun y hy e => ?_, h.lt _ (nw_mem hz hp), fun k y hk hne hyp e => ?_⟩
  · obtain ⟨A, B, hl, rfl⟩ := cut_at hi
    have hnd := h.nd
    rw [hl, nums_append, nums_cons, numsZ_split hp] at hnd
    rw [hl] at hy
    have h1 := List.nodup_append.1 hnd
    have h2 := List.nodup_append.1 h1.2.1
    rw [List.mem_append, List.mem_cons] at hy
    rcases hy with hy | rfl | hy
    · exact h1.2.2 _ (id_mem hy) z.nw (by simp) e
    · have := h2.1
      simp [e] at this
    · exact h2.2.2 z.nw (by simp) _ (id_mem hy) e.symm
  · obtain ⟨A, B, hl, rfl⟩ := cut_at hi
    have hnd := h.nd
    rw [hl, nums_append, nums_cons, numsZ_split hp] at hnd
    have h1 := List.nodup_append.1 hnd
    have h2 := List.nodup_append.1 h1.2.1
    rw [hl] at hk
    rcases Nat.lt_or_ge k A.length with hlt | hge
    · rw [List.getElem?_append_left hlt] at hk
      exact h1.2.2 _ (nw_mem (List.mem_of_getElem? hk) hyp) z.nw (by simp) e
    · rw [List.getElem?_append_right hge] at hk
      obtain ⟨j, hj⟩ : ∃ j, k - A.length = j + 1 := ⟨k - A.length - 1, by omega⟩
      rw [hj, List.getElem?_cons_succ] at hk
      exact h2.2.2 z.nw (by simp) _ (nw_mem (List.mem_of_getElem? hk) hyp) e.symm
theorem Inv.all {m : Mp} (h : Inv m) : sAll (m.zs.map spz) = true := chain_all h.chain
theorem Inv.pos {m : Mp} (h : Inv m) : 0 < m.zs.length := by
  have := h.chain
  cases hz : m.zs with
  | nil => rw [hz] at this; exact this.elim
  | cons a r => simp
theorem Inv.len {m : Mp} (h : Inv m) : m.zs.length ≤ 16 := by have := h.room; rw [nums_length] at this; omega
/-- The first map. -/
def firstM (owner : Int) : Mp := ⟨1, 2, [⟨1, z0, z0, owner, 1, 0, 0, z0, 0⟩]⟩
theorem first_inv {owner : Int} (h1 : 1 ≤ owner) (h2 : owner ≤ 1048576) : Inv (firstM owner) := by
  refine ⟨⟨show (1 : Int) ≤ 1 by decide, show (1 : Int) ≤ 1099511627776 by decide⟩, ⟨show (1 : Int) ≤ 2 by decide, show (2 : Int) ≤ 1099511627776 by decide⟩, by simp [firstM, nums, numsZ], by simp [firstM, nums, numsZ], ?_, .one (by simp) .nil, chain_start, by simp [firstM, nums, numsZ], by simp [firstM, pendN]⟩
  intro z hz
  simp only [firstM, List.mem_cons, List.not_mem_nil, or_false] at hz
  subst hz
  exact ⟨h1, h2, by simp only; omega, by simp only; omega, .inl ⟨rfl, rfl, rfl, rfl⟩⟩
end Go.Proofs.Ytobnibdeimiinaa
