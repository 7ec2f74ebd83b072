/- Contracts of bytes.Clone and of the laws' 'same'. -/
import Derived.Test.YtobnibdeimiinaaBytes
namespace Go.Proofs.Ytobnibdeimiinaa
open Go.RowKit

theorem one_cell (wr : World) (c : UInt8) (t : TypeId) (x : Int) (hx : x = (c.toNat : Int)) : ∀ ad, some (⟨wr.heap.size, 0, none⟩ : Addr) = some ad → ∀ j u, (bytV [c])[j]? = some u → (wr.alloc (.cells #[.int .u8 x] t)).cell? (ad.add j) = some u := by
  intro ad had j u hu
  obtain rfl : ad = ⟨wr.heap.size, 0, none⟩ := by simpa using had.symm
  have hj : j = 0 := by
    have := (List.getElem?_eq_some_iff.1 hu).1
    simp [bytV] at this; exact this
  subst hj hx
  simp [bytV] at hu
  subst hu
  simp [Addr.add]
theorem take_same {a b : List UInt8} {k : Nat} (h : a.take k = b.take k) (ha : k < a.length) (hb : k < b.length) (e : a[k] = b[k]) : a.take (k + 1) = b.take (k + 1) := by
  rw [List.take_succ_eq_append_getElem ha, List.take_succ_eq_append_getElem hb, h, e]
theorem take_differs {a b : List UInt8} {k : Nat} (ha : k < a.length) (hb : k < b.length) (e : a[k] ≠ b[k]) : (a == b) = false := by
  rw [beq_eq_false_iff_ne]
  intro h
  subst h
  exact e rfl
theorem take_end {a b : List UInt8} {k : Nat} (h : a.take k = b.take k) (ha : a.length ≤ k) (hl : a.length = b.length) : (a == b) = true := by
  rw [List.take_of_length_le ha, List.take_of_length_le (by omega)] at h
  rw [h, beq_self_eq_true]

set_option maxHeartbeats 1000000 in
theorem clone_any (ao : Option Addr) (cap : Nat) (a : List UInt8) (w : World) (h0 : ao = none → a.length = 0 ∧ cap = 0) (ha : BAt w ao a) (hm : a.length ≤ 140737488351232) :
    Calls Try.prog 93 #[.slice ao a.length cap] w (FreshB w a) := by
  cases ao with
  | none =>
    obtain ⟨h1, h2⟩ := h0 rfl
    have h3 : a = [] := List.length_eq_zero_iff.1 h1
    subst h3 h2
    have heq := fun w => Lib.run_eql_slice_nil (P := Try.prog) w 58 5 none 0 0 0 0 Try.underlying58
    simp only [List.length_nil]
    go_enter Try.func93, Try.ntmps93
    go_wp2_with fail
    go_ret
    exact ⟨none, 0, rfl, World.ownsRow_nil _ _ _ _, Below.refl _ _⟩
  | some ad =>
    have heq := fun w => Lib.run_eql_slice_nil (P := Try.prog) w 58 5 (some ad) a.length cap 0 0 Try.underlying58
    obtain ⟨i0, hi, hz0, hz1, hz2⟩ := info_parts byteInfo
    have Ha := Lib.hid ha
    clear ha h0
    go_enter Try.func93, Try.ntmps93
    go_wp2_with (at_builtin; go_must (refine wpList_append_any _ rfl (.tmp 5) (.tmp 6) 58 rfl w.heap.size 5 i0 (.int .u8 0) 1 1 Try.underlying58 hi hz0 hz1 hz2 rfl (by decide) _ 0 [] rfl (owns_emptyAt _ w.heap.size rfl w.heap.size (Nat.le_refl _) 5 1) (some ad) a.length cap (bytV a) rfl (fun h => by cases h) (by rw [bytV_length, Nat.mul_one]) (Ha.out.below ((Below.refl _ _).alloc (Nat.le_refl _) _)).cells (bytV_one a) (by unfold maxLen; omega) (by omega) (by simp) ?_))
    intro v w1 hown hgrow
    have hb : Below w.heap.size w w1 := below_grown ((Below.refl _ _).alloc (Nat.le_refl _) _) (by simp) hgrow (fun k hk => by simp [Value.ownBlock] at hk; omega)
    obtain ⟨bo, c, hv, ho⟩ := owned_bytes (by simpa using hown) rfl
    have Ho := Lib.hid ho
    clear hown hgrow ho
    rw [hv]
    go_wp2_with fail
    go_ret
    exact ⟨bo, c, rfl, Ho.out, hb⟩
end Go.Proofs.Ytobnibdeimiinaa
