/- Contracts of bytes.Clone and of the laws' 'same'. -/
import Derived.Test.YtcboflabjdiadaaBytes
namespace Go.Proofs.Ytcboflabjdiadaa
open Go.RowKit

theorem one_cell (wr : World) (c : UInt8) (t : TypeId) (x : Int) (hx : x = (c.toNat : Int)) : ∀ ad, some (⟨wr.heap.size, 0, none⟩ : Addr) = some ad → ∀ j u, (bytV [c])[j]? = some u → (wr.alloc (.cells #[.int .u8 x] t)).cell? (ad.add j) = some u := by
  intro ad had j u hu
  obtain rfl : ad = ⟨wr.heap.size, 0, none⟩ := by simpa using had.symm
  have hj : j = 0 := by
    have := (List.getElem?_eq_some_iff.1 hu).1
    simp [bytV] at this; exact this
  subst hj hx
  simp [bytV] at hu
  subst hu
  simp [Addr.add]
theorem take_same {a b : List UInt8} {k : Nat} (h : a.take k = b.take k) (ha : k < a.length) (hb : k < b.length) (e : a[k] = b[k]) : a.take (k + 1) = b.take (k + 1) := by
  rw [List.take_succ_eq_append_getElem ha, List.take_succ_eq_append_getElem hb, h, e]
theorem take_differs {a b : List UInt8} {k : Nat} (ha : k < a.length) (hb : k < b.length) (e : a[k] ≠ b[k]) : (a == b) = false := by
  rw [beq_eq_false_iff_ne]
  intro h
  subst h
  exact e rfl
theorem take_end {a b : List UInt8} {k : Nat} (h : a.take k = b.take k) (ha : a.length ≤ k) (hl : a.length = b.length) : (a == b) = true := by
  rw [List.take_of_length_le ha, List.take_of_length_le (by omega)] at h
  rw [h, beq_self_eq_true]

set_option maxHeartbeats 1000000 in
theorem same_any (ao bo : Option Addr) (ca cb : Nat) (a b : List UInt8) (w : World) (ha : BAt w ao a) (hb : BAt w bo b) (hm : a.length ≤ 9223372036854775807) (hmb : b.length ≤ 9223372036854775807) :
    Calls Try.prog 20 #[.slice ao a.length ca, .slice bo b.length cb] w fun e w' => e = .returned (.bool (a == b)) ∧ Below w.heap.size w w' := by
  by_cases hl : a.length = b.length
  · by_cases hp : 0 < a.length
    · obtain ⟨x, ox, rfl, hx, rx⟩ := ha hp
      obtain ⟨y, oy, rfl, hy, ry⟩ := hb (by omega)
      have hbeq : ((a.length : Int) != (b.length : Int)) = false := by simp; omega
      have Rx := Lib.hid rx
      have Ry := Lib.hid ry
      have Hl := Lib.hid hl
      clear rx ry hl ha hb
      go_enter Try.func20, Try.ntmps20
      go_wp2_with fail
      go_loopw [5] (fun i wr => ∃ k : Nat, k ≤ a.length ∧ i = .int .i64 k ∧ Below w.heap.size w wr ∧ Hid (a.take k = b.take k)) (fun i _ => a.length - (intOf i).toNat)
      case atStart => exact ⟨0, Nat.zero_le _, rfl, Below.refl _ _, by simp [Hid]⟩
      case round =>
        obtain ⟨k, hk, rfl, wr_b, hst⟩ := hrel
        by_cases hlt : k < a.length
        · have hlb : k < b.length := by have := Hl.out; omega
          have c1 := (wr_b.cell (p := ⟨x, ox + k, none⟩) hx).trans (Rx.out k hlt)
          have c2 := (wr_b.cell (p := ⟨y, oy + k, none⟩) hy).trans (Ry.out k hlb)
          have n1 : (0 : Int) ≤ a[k].toNat ∧ (a[k].toNat : Int) < 256 := ⟨by omega, by have := a[k].toNat_lt; omega⟩
          go_wp2_with fail
          go_quiet (fail)
          go_wp2_with fail
          · go_ret
            have hne : (((a[k]).toNat : Int) != ((b[k]).toNat : Int)) = true := by assumption
            exact ⟨by rw [take_differs hlt hlb (fun e => by rw [e] at hne; simp at hne)]; rfl, (by repeat (first | with_reducible exact Below.refl _ _ | with_reducible assumption | with_reducible refine Below.drew ?_ | with_reducible refine below_drawn ?_ | with_reducible refine Below.alloc ?_ (by first | omega | (simp; done) | (simp; omega) | (simp at *; omega)) _ | with_reducible refine Below.setCell ?_ (by first | omega | (simp; done) | (simp; omega) | (simp at *; omega)) _ | with_reducible refine Below.trans ?_ (Below.mono (by assumption) (by first | omega | (simp; done) | (simp; omega) | (simp at *; omega)))))⟩
          · have he : (((a[k]).toNat : Int) != ((b[k]).toNat : Int)) = false := by assumption
            go_roundw
            case rel => exact ⟨k + 1, by omega, by go_num, (by repeat (first | with_reducible exact Below.refl _ _ | with_reducible assumption | with_reducible refine Below.drew ?_ | with_reducible refine below_drawn ?_ | with_reducible refine Below.alloc ?_ (by first | omega | (simp; done) | (simp; omega) | (simp at *; omega)) _ | with_reducible refine Below.setCell ?_ (by first | omega | (simp; done) | (simp; omega) | (simp at *; omega)) _ | with_reducible refine Below.trans ?_ (Below.mono (by assumption) (by first | omega | (simp; done) | (simp; omega) | (simp at *; omega))))), take_same hst.out hlt hlb (UInt8.toNat_inj.1 (by simp at he; omega))⟩
            case measure => simp [intOf]; omega
        · clear hbeq
          go_wp2_with fail
          go_ret
          exact ⟨by rw [take_end hst.out (by omega) Hl.out]; rfl, wr_b⟩
    · have h1 : a = [] := List.length_eq_zero_iff.1 (by omega)
      have h2 : b = [] := List.length_eq_zero_iff.1 (by omega)
      subst h1 h2
      clear ha hb
      go_enter Try.func20, Try.ntmps20
      go_wp2_with fail
      refine wp_loop_rounds 1 ?_
      rw [rounds_succ]
      go_wp2_with fail
      go_ret
      exact ⟨rfl, (by repeat (first | with_reducible exact Below.refl _ _ | with_reducible assumption | with_reducible refine Below.drew ?_ | with_reducible refine below_drawn ?_ | with_reducible refine Below.alloc ?_ (by first | omega | (simp; done) | (simp; omega) | (simp at *; omega)) _ | with_reducible refine Below.setCell ?_ (by first | omega | (simp; done) | (simp; omega) | (simp at *; omega)) _ | with_reducible refine Below.trans ?_ (Below.mono (by assumption) (by first | omega | (simp; done) | (simp; omega) | (simp at *; omega)))))⟩
  · have hne : ((a.length : Int) != (b.length : Int)) = true := by simp; omega
    have hf : (a == b) = false := by rw [beq_eq_false_iff_ne]; intro e; rw [e] at hl; exact hl rfl
    have Hf := Lib.hid hf
    clear ha hb hf
    go_enter Try.func20, Try.ntmps20
    go_wp2_with fail
    go_ret
    exact ⟨by rw [Hf.out]; rfl, (by repeat (first | with_reducible exact Below.refl _ _ | with_reducible assumption | with_reducible refine Below.drew ?_ | with_reducible refine below_drawn ?_ | with_reducible refine Below.alloc ?_ (by first | omega | (simp; done) | (simp; omega) | (simp at *; omega)) _ | with_reducible refine Below.setCell ?_ (by first | omega | (simp; done) | (simp; omega) | (simp at *; omega)) _ | with_reducible refine Below.trans ?_ (Below.mono (by assumption) (by first | omega | (simp; done) | (simp; omega) | (simp at *; omega)))))⟩

set_option maxHeartbeats 1000000 in
theorem clone_any (ao : Option Addr) (cap : Nat) (a : List UInt8) (w : World) (h0 : ao = none → a.length = 0 ∧ cap = 0) (ha : BAt w ao a) (hm : a.length ≤ 140737488351232) :
    Calls Try.prog 38 #[.slice ao a.length cap] w (FreshB w a) := by
  cases ao with
  | none =>
    obtain ⟨h1, h2⟩ := h0 rfl
    have h3 : a = [] := List.length_eq_zero_iff.1 h1
    subst h3 h2
    have heq := fun w => Lib.run_eql_slice_nil (P := Try.prog) w 33 5 none 0 0 0 0 Try.underlying33
    simp only [List.length_nil]
    go_enter Try.func38, Try.ntmps38
    go_wp2_with fail
    go_ret
    exact ⟨none, 0, rfl, World.ownsRow_nil _ _ _ _, Below.refl _ _⟩
  | some ad =>
    have heq := fun w => Lib.run_eql_slice_nil (P := Try.prog) w 33 5 (some ad) a.length cap 0 0 Try.underlying33
    obtain ⟨i0, hi, hz0, hz1, hz2⟩ := info_parts byteInfo
    have Ha := Lib.hid ha
    clear ha h0
    go_enter Try.func38, Try.ntmps38
    go_wp2_with (at_builtin; go_must (refine wpList_append_any _ rfl (.tmp 5) (.tmp 6) 33 rfl w.heap.size 5 i0 (.int .u8 0) 1 1 Try.underlying33 hi hz0 hz1 hz2 rfl (by decide) _ 0 [] rfl (owns_emptyAt _ w.heap.size rfl w.heap.size (Nat.le_refl _) 5 1) (some ad) a.length cap (bytV a) rfl (fun h => by cases h) (by rw [bytV_length, Nat.mul_one]) (Ha.out.below ((Below.refl _ _).alloc (Nat.le_refl _) _)).cells (bytV_one a) (by unfold maxLen; omega) (by omega) (by simp) ?_))
    intro v w1 hown hgrow
    have hb : Below w.heap.size w w1 := below_grown ((Below.refl _ _).alloc (Nat.le_refl _) _) (by simp) hgrow (fun k hk => by simp [Value.ownBlock] at hk; omega)
    obtain ⟨bo, c, hv, ho⟩ := owned_bytes (by simpa using hown) rfl
    have Ho := Lib.hid ho
    clear hown hgrow ho
    rw [hv]
    go_wp2_with fail
    go_ret
    exact ⟨bo, c, rfl, Ho.out, hb⟩
end Go.Proofs.Ytcboflabjdiadaa
