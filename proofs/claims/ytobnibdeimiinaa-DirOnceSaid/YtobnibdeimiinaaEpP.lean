/- No zone's Epoch falls, in plain Lean. -/
import Derived.Test.YtobnibdeimiinaaPn
namespace Go.Proofs.Ytobnibdeimiinaa

def Like (x y : Zn) : Prop := y.id = x.id ∧ y.owner = x.owner ∧ y.epoch = x.epoch ∧ y.fr = x.fr ∧ y.to = x.to
def RelZ (l : List Zn) (y : Zn) : Prop := (∃ x ∈ l, Like x y) ∨ (∃ x ∈ l, y.id = x.id ∧ x.epoch < y.epoch) ∨ (∀ x ∈ l, x.id ≠ y.id)
theorem RelZ.old {l : List Zn} {y : Zn} (h : y ∈ l) : RelZ l y := .inl ⟨y, h, rfl, rfl, rfl, rfl, rfl⟩
theorem RelZ.like {l : List Zn} {x y : Zn} (h : x ∈ l) (k : Like x y) : RelZ l y := .inl ⟨x, h, k⟩
theorem RelZ.up {l : List Zn} {x y : Zn} (h : x ∈ l) (k : y.id = x.id) (e : x.epoch < y.epoch) : RelZ l y := .inr (.inl ⟨x, h, k, e⟩)
theorem relZ_set {l : List Zn} {i : Nat} {a y : Zn} (h : y ∈ l.set i a) (ha : RelZ l a) : RelZ l y := by
  rcases List.mem_or_eq_of_mem_set h with h | h
  · exact .old h
  · exact h ▸ ha
theorem change_rel {hosts : List Int} {m m' : Mp} {i : Nat} {z : Zn} {c : Ch} (h : Inv m) (hi : m.zs[i]? = some z) (hm : changeM hosts m i z c = some m') : ∀ y ∈ m'.zs, RelZ m.zs y := by
  have hz := List.mem_of_getElem? hi
  intro y hy
  unfold changeM at hm
  split at hm
  · unfold splitM at hm
    split at hm
    · cases hm
    · simp only [Option.some.injEq] at hm
      subst hm
      exact relZ_set hy (.like hz ⟨rfl, rfl, rfl, rfl, rfl⟩)
  · split at hm
    · unfold mergeM at hm
      cases hb : m.zs[i + 1]? with
      | none => rw [hb] at hm; cases hm
      | some b =>
        rw [hb] at hm
        simp only at hm
        split at hm
        · cases hm
        · simp only [Option.some.injEq] at hm
          subst hm
          have hbm := List.mem_of_getElem? hb
          rcases List.mem_or_eq_of_mem_set hy with hy | hy
          · exact relZ_set hy (.like hz ⟨rfl, rfl, rfl, rfl, rfl⟩)
          · exact hy ▸ RelZ.like hbm ⟨rfl, rfl, rfl, rfl, rfl⟩
    · split at hm
      · unfold moveM at hm
        split at hm
        · cases hm
        · simp only [Option.some.injEq] at hm
          subst hm
          exact relZ_set hy (.like hz ⟨rfl, rfl, rfl, rfl, rfl⟩)
      · split at hm
        · unfold doneM at hm
          split at hm
          · cases hm
          · split at hm
            · rename_i hp
              simp only [Option.some.injEq] at hm
              subst hm
              rw [List.mem_append, List.mem_cons, List.mem_cons] at hy
              rcases hy with hy | hy | hy | hy
              · exact .old (List.mem_of_mem_take hy)
              · exact hy ▸ RelZ.up hz rfl (by first | omega | (simp only [endedZ]; omega))
              · subst hy
                refine .inr (.inr fun x hx e => ?_)
                have hf := (h.fresh hi hp).1
                unfold findZ at hf
                rw [List.findIdx?_eq_none_iff] at hf
                have := hf x hx
                rw [beq_eq_false_iff_ne] at this
                exact this e
              · exact .old (List.mem_of_mem_drop hy)
            · split at hm
              · cases hb : m.zs[i + 1]? with
                | none => rw [hb] at hm; cases hm
                | some b =>
                  rw [hb] at hm
                  simp only at hm
                  split at hm
                  · cases hm
                  · simp only [Option.some.injEq] at hm
                    subst hm
                    rw [List.mem_append, List.mem_cons] at hy
                    rcases hy with hy | hy | hy
                    · exact .old (List.mem_of_mem_take hy)
                    · exact hy ▸ RelZ.up hz rfl (by simp only [joinZ, endedZ]; omega)
                    · exact .old (List.mem_of_mem_drop hy)
              · split at hm
                · simp only [Option.some.injEq] at hm
                  subst hm
                  exact relZ_set hy (.up hz rfl (by first | omega | (simp only [endedZ]; omega)))
                · cases hm
        · unfold abortM at hm
          split at hm
          · cases hm
          · simp only [Option.some.injEq] at hm
            subst hm
            exact relZ_set hy (.up hz rfl (by first | omega | (simp only [endedZ]; omega)))
theorem Inv.same_id {m : Mp} (h : Inv m) {x y : Zn} (hx : x ∈ m.zs) (hy : y ∈ m.zs) (e : x.id = y.id) : x = y := by
  obtain ⟨i, hi, rfl⟩ := List.mem_iff_getElem.1 hx
  obtain ⟨j, hj, rfl⟩ := List.mem_iff_getElem.1 hy
  have h1 := h.at (List.getElem?_eq_getElem hi)
  have h2 := h.at (List.getElem?_eq_getElem hj)
  rw [e, h2] at h1
  obtain rfl := Option.some.inj h1
  rfl
/-- What the law asks of two zones of one ID. -/
def okE (x y : Zn) : Prop := ¬ (y.epoch < x.epoch) ∧ ¬ (y.owner ≠ x.owner ∧ y.epoch ≤ x.epoch) ∧ ¬ ((y.fr ≠ x.fr ∨ y.to ≠ x.to) ∧ y.epoch ≤ x.epoch)
theorem okE_self (x : Zn) : okE x x := ⟨by omega, by simp, by simp⟩
theorem epochs_ok {hosts : List Int} {m : Mp} {c : Ch} (h : Inv m) {x y : Zn} (hx : x ∈ m.zs) (hy : y ∈ ((applyM hosts m c).getD m).zs) (e : x.id = y.id) : okE x y := by
  have hr : RelZ m.zs y := by
    cases hm : applyM hosts m c with
    | none => rw [hm] at hy; exact .old hy
    | some m' =>
      rw [hm] at hy
      simp only [Option.getD_some] at hy
      unfold applyM at hm
      split at hm
      · cases hf : findZ m.zs c.zone with
        | none => rw [hf] at hm; cases hm
        | some i =>
          rw [hf] at hm
          simp only at hm
          cases hi : m.zs[i]? with
          | none => rw [hi] at hm; cases hm
          | some z =>
            rw [hi] at hm
            simp only [Option.map_eq_some_iff] at hm
            obtain ⟨m2, h2, rfl⟩ := hm
            exact change_rel h hi h2 y hy
      · cases hm
  rcases hr with ⟨x0, hx0, k⟩ | ⟨x0, hx0, k1, k2⟩ | k
  · obtain rfl := h.same_id hx hx0 (e.trans k.1)
    obtain ⟨-, k2, k3, k4, k5⟩ := k
    refine ⟨by omega, fun hh => hh.1 k2, fun hh => ?_⟩
    rcases hh.1 with h1 | h1
    · exact h1 k4
    · exact h1 k5
  · obtain rfl := h.same_id hx hx0 (e.trans k1)
    exact ⟨by omega, by omega, by omega⟩
  · exact absurd e (k x hx)
end Go.Proofs.Ytobnibdeimiinaa
