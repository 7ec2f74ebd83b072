/- The contract of the Reader's Bytes. -/
import Derived.Test.YtglidhbkglfkeaaRdNum
namespace Go.Proofs.Ytglidhbkglfkeaa
open Go.RowKit

/-- A row taken: the row and what is left behind it. -/
def bytesOf (l : List UInt8) : Option (List UInt8 × List UInt8) := match numOf l with
  | none => none
  | some (n, r) => if n ≤ r.length then some (r.take n, r.drop n) else none
/-- What a reader answers and becomes. -/
def tookOf (rest : List UInt8) (bad : Bool) : List UInt8 × List UInt8 × Bool := match bytesOf rest with
  | some (x, r) => (x, r, bad)
  | none => ([], [], true)
theorem own_nothing (w : World) (base : Nat) : OwnB w base none 0 [] := ⟨rfl, .inl ⟨rfl, rfl⟩⟩
theorem RdAt.lt {w : World} {p g : Nat} {rest : List UInt8} {bad : Bool} (h : RdAt w p g rest bad) : p < w.heap.size := by
  obtain ⟨ao, cap, h1, -⟩ := h
  exact lt_of_block h1
theorem numOf_left {l : List UInt8} {n : Nat} {r : List UInt8} (h : numOf l = some (n, r)) : r.length ≤ l.length ∧ n ≤ 4611686018427387904 := by
  obtain ⟨h1, k, -, -, e⟩ := numR_left l 0 0 n r h
  exact ⟨by rw [e, List.length_drop]; omega, h1⟩

set_option maxHeartbeats 1000000 in
theorem rdbytes_any (p g : Nat) (rest : List UInt8) (bad : Bool) (w : World) (h : RdAt w p g rest bad) (hm : rest.length ≤ 140737488351232) :
    Calls Try.prog 33 #[.pointer (some ⟨p, 0, none⟩)] w fun e w' => ∃ x r' b' ao cap, (x, r', b') = tookOf rest bad ∧ e = .returned (.slice ao x.length cap) ∧ OwnB w' w.heap.size ao cap x ∧ RdAt w' p g r' b' ∧ Keeps w w' (fun x => x = p) := by
  have Hnum := Lib.hid (rdnum_any p g rest bad w h hm)
  have hlt := h.lt
  clear h
  have Htook : Hid (tookOf rest bad = match numOf rest with | none => ([], [], true) | some (n, r) => if n ≤ r.length then (r.take n, r.drop n, bad) else ([], [], true)) := by
    unfold Hid tookOf bytesOf
    cases numOf rest with
    | none => rfl
    | some o => obtain ⟨n, r⟩ := o; simp only; by_cases hc : n ≤ r.length <;> simp only [hc, if_true, if_false]
  go_enter Try.func33, Try.ntmps33
  go_wp2_with fail
  refine Hnum.out.mono ?_
  rintro e w1 ⟨hy, hn, hk⟩
  have hs := hk.size
  cases ho : numOf rest with
  | none =>
    obtain ⟨rfl, hr⟩ := hn ho
    have htook := Htook.out
    rw [ho] at htook
    have Ht := Lib.hid htook
    have Hraw := Lib.hid (rdraw_yes p g [] true 0 w1 hr (Nat.le_refl _) (by simp))
    clear hy hn hr ho htook
    go_wp2_with fail
    refine Hraw.out.mono ?_
    rintro e w2 ⟨ao, cap, rfl, hown, hr2, hk2⟩
    go_wp2_with fail
    go_ret
    exact ⟨[], [], true, ao, cap, Ht.out.symm, rfl, own_weak hown hs, hr2, hk.trans hk2 (fun _ h => h) (fun _ _ h => h)⟩
  | some o =>
    obtain ⟨n, r⟩ := o
    obtain ⟨rfl, hr⟩ := hy n r ho
    obtain ⟨hl, hnle⟩ := numOf_left ho
    have htook := Htook.out
    rw [ho] at htook
    simp only at htook
    by_cases hnr : n ≤ r.length
    · rw [if_pos hnr] at htook
      have Ht := Lib.hid htook
      have Hraw := Lib.hid (rdraw_yes p g r bad n w1 hr hnr (by omega))
      clear hy hn hr ho htook
      go_wp2_with fail
      refine Hraw.out.mono ?_
      rintro e w2 ⟨ao, cap, rfl, hown, hr2, hk2⟩
      go_wp2_with fail
      go_ret
      refine ⟨r.take n, r.drop n, bad, ao, cap, Ht.out.symm, ?_, own_weak hown hs, hr2, hk.trans hk2 (fun _ h => h) (fun _ _ h => h)⟩
      rw [List.length_take, Nat.min_eq_left hnr]; rfl
    · rw [if_neg hnr] at htook
      have Ht := Lib.hid htook
      have Hraw := Lib.hid (rdraw_no p g r bad n w1 hr (.inr (by omega)))
      clear hy hn hr ho htook
      go_wp2_with fail
      refine Hraw.out.mono ?_
      rintro e w2 ⟨rfl, hr2, hk2⟩
      go_wp2_with fail
      go_ret
      exact ⟨[], [], true, none, 0, Ht.out.symm, rfl, own_nothing _ _, hr2, hk.trans hk2 (fun _ h => h) (fun _ _ h => h)⟩
end Go.Proofs.Ytglidhbkglfkeaa
