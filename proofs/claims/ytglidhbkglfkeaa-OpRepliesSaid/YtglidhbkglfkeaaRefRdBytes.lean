/- The document's Reader.Bytes. -/
import Derived.Test.YtglidhbkglfkeaaRefRdNum
namespace Go.Proofs.Ytglidhbkglfkeaa
open Go.RowKit

set_option maxHeartbeats 2000000 in
theorem rrbytes_any (p g : Nat) (rest : List UInt8) (bad : Bool) (w : World) (h : RRAt w p g rest bad) (hm : rest.length ≤ 140737488351232) :
    Calls Try.prog 55 #[.pointer (some ⟨p, 0, none⟩)] w fun e w' => ∃ x r' b' ao cap, (x, r', b') = tookOf rest bad ∧ e = .returned (.slice ao x.length cap) ∧ OwnB w' w.heap.size ao cap x ∧ RRAt w' p g r' b' ∧ Keeps w w' (fun x => x = p) := by
  have Hnum := Lib.hid (rrnum_any p g rest bad w h hm)
  have hb0 := h.1
  clear h
  have Htook : Hid (tookOf rest bad = match numOf rest with | none => ([], [], true) | some (n, r) => if n ≤ r.length then (r.take n, r.drop n, bad) else ([], [], true)) := by
    unfold Hid tookOf bytesOf
    cases numOf rest with
    | none => rfl
    | some o => obtain ⟨n, r⟩ := o; simp only; by_cases hc : n ≤ r.length <;> simp only [hc, if_true, if_false]
  have Hb0 := Lib.hid hb0
  clear hb0
  go_enter Try.func55, Try.ntmps55
  go_wp2_with fail
  refine Hnum.out.mono ?_
  rintro e w1 ⟨hy, hn, hk⟩
  have hs := hk.size
  cases ho : numOf rest with
  | none =>
    obtain ⟨rfl, hr⟩ := hn ho
    have htook := Htook.out
    rw [ho] at htook
    have Ht := Lib.hid htook
    have c1 := rr_cells hr
    have Hr := Lib.hid hr
    clear hy hn hr ho htook
    go_wp2_with fail
    go_ret
    exact ⟨[], [], true, none, 0, Ht.out.symm, rfl, own_nothing _ _, Hr.out, hk⟩
  | some o =>
    obtain ⟨n, r⟩ := o
    have hbf : bad = false := by
      cases bad with
      | false => rfl
      | true =>
        have := Hb0.out rfl
        subst this
        cases ho
    subst hbf
    obtain ⟨rfl, hr⟩ := hy n r ho
    obtain ⟨hl, hnle⟩ := numOf_left ho
    have htook := Htook.out
    rw [ho] at htook
    simp only at htook
    have c1 := rr_cells hr
    by_cases hnr : n ≤ r.length
    · rw [if_pos hnr] at htook
      have Ht := Lib.hid htook
      have Hraw := Lib.hid (rrraw_yes p g r n w1 hr hnr (by omega))
      clear hy hn hr ho htook
      go_wp2_with fail
      refine Hraw.out.mono ?_
      rintro e w2 ⟨ao, cap, rfl, hown, hr2, hk2⟩
      go_wp2_with fail
      go_ret
      refine ⟨r.take n, r.drop n, false, ao, cap, Ht.out.symm, ?_, own_weak hown hs, hr2, hk.trans hk2 (fun _ h => h) (fun _ _ h => h)⟩
      rw [List.length_take, Nat.min_eq_left hnr]; rfl
    · rw [if_neg hnr] at htook
      have Ht := Lib.hid htook
      have Hraw := Lib.hid (rrraw_no p g r false n w1 hr (.inr (by omega)))
      clear hy hn hr ho htook
      go_wp2_with fail
      refine Hraw.out.mono ?_
      rintro e w2 ⟨rfl, hr2, hk2⟩
      go_wp2_with fail
      go_ret
      exact ⟨[], [], true, none, 0, Ht.out.symm, rfl, own_nothing _ _, hr2, hk.trans hk2 (fun _ h => h) (fun _ _ h => h)⟩
end Go.Proofs.Ytglidhbkglfkeaa
