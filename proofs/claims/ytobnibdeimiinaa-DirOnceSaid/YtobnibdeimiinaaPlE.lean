/- What the laws ask of a played map, in plain Lean. -/
import Derived.Test.YtobnibdeimiinaaPlay
import Derived.Test.YtobnibdeimiinaaEpP
import Derived.Test.YtobnibdeimiinaaDKnown
namespace Go.Proofs.Ytobnibdeimiinaa
open Go.RowKit

def hosts3 : List Int := [8, 9, 10]
def hosts6 : List Int := [8, 9, 10, 11, 12, 13]
theorem ok3 : hostsB hosts3 = true := by decide +kernel
theorem ok6 : hostsB hosts6 = true := by decide +kernel
theorem play_yes {W : World} {hosts : List Int} {l : List Ch} {e : Ending} {w' : World} (h : PlayPost W hosts l e w') (hb : hostsB hosts = true) : ∃ p g zc b c' p2 g2 zc2 b2 c2', e = .returned (.tuple #[.pointer (some ⟨p, 0, none⟩), .pointer (some ⟨p2, 0, none⟩), .bool true]) ∧ St W w' (Two W p g zc b c' p2 g2 zc2 b2 c2' hosts (playM hosts l) (playM hosts l)) := by
  unfold PlayPost at h; rw [if_pos hb] at h; exact h
theorem St.mem0 {W w : World} {L : List Th} (h : St W w L) (i : Nat) (t : Th) (hi : L[i]? = some t) : t.T w := h.mem (List.mem_of_getElem? hi)
/-- A zone whose change is done has another Epoch. -/
theorem done_epoch {m m' : Mp} {i : Nat} {z : Zn} {c : Ch} (hm : doneM m i z c = some m') (hi : m.zs[i]? = some z) : ∃ y ∈ m'.zs, y.id = z.id ∧ z.epoch < y.epoch := by
  unfold doneM at hm
  split at hm
  · cases hm
  · split at hm
    · simp only [Option.some.injEq] at hm
      subst hm
      refine ⟨_, List.mem_append_right _ List.mem_cons_self, rfl, ?_⟩
      show z.epoch < z.epoch + 1
      omega
    · split at hm
      · split at hm
        · cases hm
        · rename_i o ho
          split at hm
          · cases hm
          · simp only [Option.some.injEq] at hm
            subst hm
            exact ⟨joinZ z o, by simp, rfl, by show z.epoch < max z.epoch o.epoch + 1; omega⟩
      · split at hm
        · simp only [Option.some.injEq] at hm
          subst hm
          obtain ⟨hil, -⟩ := List.getElem?_eq_some_iff.1 hi
          exact ⟨{ endedZ z (z.epoch + 1) with owner := z.tt }, List.mem_set hil _, rfl, by show z.epoch < z.epoch + 1; omega⟩
        · cases hm
theorem mem_at {m : Mp} (h : Inv m) {y : Zn} (hy : y ∈ m.zs) : ∃ i, m.zs[i]? = some y ∧ findZ m.zs y.id = some i := by
  obtain ⟨i, hi, rfl⟩ := List.mem_iff_getElem.1 hy
  exact ⟨i, List.getElem?_eq_getElem hi, h.at (List.getElem?_eq_getElem hi)⟩
/-- What is of another Epoch is not done and not aborted. -/
theorem apply_late {hosts : List Int} {m : Mp} (h : Inv m) {y : Zn} (hy : y ∈ m.zs) {c : Ch} (hc : c.zone = y.id) (hk : c.kind = 4 ∨ c.kind = 5) (he : c.epoch ≠ y.epoch) : applyM hosts m c = none := by
  obtain ⟨i, hi, hf⟩ := mem_at h hy
  by_cases hm : mayC c = true ∧ m.ver < 1099511627776
  · rw [applyM_at hm.1 hm.2 (hc ▸ hf) hi]
    unfold changeM
    rcases hk with hk | hk
    · rw [hk, if_neg (by decide), if_neg (by decide), if_neg (by decide), if_pos rfl]
      unfold doneM
      rw [if_pos (.inl (fun e => he e.symm))]
      rfl
    · rw [hk, if_neg (by decide), if_neg (by decide), if_neg (by decide), if_neg (by decide)]
      unfold abortM
      rw [if_pos (.inr (.inl (fun e => he e.symm)))]
      rfl
  · exact applyM_no hm
theorem once_late {hosts : List Int} (hh : ∀ n ∈ hosts, 1 ≤ n ∧ n ≤ 1048576) {m m1 : Mp} (h : Inv m) {i : Nat} {z : Zn} (hi : m.zs[i]? = some z) (h1 : applyM hosts m ⟨4, z.id, z.epoch, 0, z0⟩ = some m1) (k : Int) (hk : k = 4 ∨ k = 5) : applyM hosts m1 ⟨k, z.id, z.epoch, 0, z0⟩ = none := by
  have hI1 := apply_inv hh h h1
  have hf := h.at hi
  by_cases hm : mayC ⟨4, z.id, z.epoch, 0, z0⟩ = true ∧ m.ver < 1099511627776
  · rw [applyM_at hm.1 hm.2 (c := ⟨4, z.id, z.epoch, 0, z0⟩) hf hi] at h1
    simp only [Option.map_eq_some_iff] at h1
    obtain ⟨x, hx, rfl⟩ := h1
    unfold changeM at hx
    rw [if_neg (show ¬ (4 : Int) = 1 by decide), if_neg (show ¬ (4 : Int) = 2 by decide), if_neg (show ¬ (4 : Int) = 3 by decide), if_pos rfl] at hx
    obtain ⟨y, hy, hy1, hy2⟩ := done_epoch hx hi
    exact apply_late hI1 (y := y) hy hy1.symm hk (by simp only; omega)
  · rw [applyM_no hm] at h1; cases h1
theorem find_one {α : Type} {p : α → Bool} {l : List α} (h : ∃ x ∈ l, p x = true) : ∃ z, l.find? p = some z ∧ p z = true := by
  have h2 : (l.find? p).isSome := by rw [List.find?_isSome]; exact h
  obtain ⟨y, hy⟩ := Option.isSome_iff_exists.1 h2
  exact ⟨y, hy, List.find?_some hy⟩
theorem one_in {α : Type} {p : α → Bool} {l : List α} (h : (l.filter p).length = 1) : ∃ x ∈ l, p x = true := by
  have hne : l.filter p ≠ [] := by intro e; rw [e] at h; cases h
  obtain ⟨s, hs⟩ := List.exists_mem_of_ne_nil _ hne
  exact ⟨s, (List.mem_filter.1 hs).1, (List.mem_filter.1 hs).2⟩
theorem hasZ_one {l : List Zn} {k : ByteArray} (h : cnt k (l.map spz) = 1) : ∃ z, hasZ l k = some z ∧ inB z.fr z.to k = true := by
  obtain ⟨s, hs1, hs2⟩ := one_in (p := fun s : Sp => inB s.1 s.2 k) h
  obtain ⟨z, hz, hzs⟩ := List.mem_map.1 hs1
  exact find_one (p := fun z : Zn => inB z.fr z.to k) ⟨z, hz, by rw [← hzs] at hs2; exact hs2⟩
end Go.Proofs.Ytobnibdeimiinaa
