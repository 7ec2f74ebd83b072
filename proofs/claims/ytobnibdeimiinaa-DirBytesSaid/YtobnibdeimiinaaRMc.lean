/- The contract of the document's MayChange. -/
import Derived.Test.YtobnibdeimiinaaMayC
namespace Go.Proofs.Ytobnibdeimiinaa
open Go.RowKit

theorem dec0 (a : Int) : decide ((0 : Int) = a) = decide (a = 0) := by rw [Bool.eq_iff_iff]; simp [eq_comm]
theorem isKey_any (k : ByteArray) (w : World) (r : Bool) (hr : decide (1 ≤ k.size ∧ k.size ≤ 16) = r) : Calls Try.prog 83 #[.string k] w fun e w' => e = .returned (.bool r) ∧ w = w' := by
  by_cases h1 : 1 ≤ k.size
  · by_cases h2 : k.size ≤ 16
    · obtain rfl : r = true := by rw [← hr]; simp [h1, h2]
      have d : decide ((k.size : Int) ≤ 16) = true := by rw [decide_eq_true_eq]; omega
      clear hr
      go_enter Try.func83, Try.ntmps83
      go_wp2_with fail
      go_ret
      exact ⟨rfl, rfl⟩
    · obtain rfl : r = false := by rw [← hr]; simp [h2]
      have d : decide ((k.size : Int) ≤ 16) = false := by rw [decide_eq_false_iff_not]; omega
      clear hr
      go_enter Try.func83, Try.ntmps83
      go_wp2_with fail
      go_ret
      exact ⟨rfl, rfl⟩
  · obtain rfl : r = false := by rw [← hr]; simp [h1]
    clear hr
    go_enter Try.func83, Try.ntmps83
    go_wp2_with fail
    go_ret
    exact ⟨rfl, rfl⟩
set_option maxRecDepth 40000 in
set_option maxHeartbeats 4000000 in
theorem rmayC_any (c : Ch) (w : World) (r : Bool) (hr : mayC c = r) :
    Calls Try.prog 48 #[.agg #[.int .i64 c.kind, .int .i64 c.zone, .int .i64 c.epoch, .int .i64 c.tt, .string c.key]] w fun e w' => e = .returned (.bool r) ∧ Below w.heap.size w w' := by
  unfold mayC at hr
  obtain ⟨kind, zone, epoch, tt, key⟩ := c
  simp only at hr ⊢
  by_cases z1 : 1 ≤ zone
  · have a1 : decide (zone < 1) = false := by rw [decide_eq_false_iff_not]; omega
    by_cases z2 : zone ≤ 1099511627776
    · have a2 : decide (1099511627776 < zone) = false := by rw [decide_eq_false_iff_not]; omega
      rw [decide_eq_true ⟨z1, z2⟩, Bool.true_and] at hr
      clear z1 z2
      by_cases k1 : kind = 1
      · subst k1
        rw [if_pos rfl] at hr
        cases hkk : decide (1 ≤ key.size ∧ key.size ≤ 16) with
        | false =>
          have Hk := Lib.hid (fun w => isKey_any key w false hkk)
          obtain rfl : r = false := by
            rw [← hr]
            have hq : ¬ (1 ≤ key.size ∧ key.size ≤ 16) := by simpa using hkk
            rw [decide_eq_false_iff_not]
            rintro ⟨h1, h2, -⟩
            exact hq ⟨h1, h2⟩
          clear hr hkk
          (go_enter Try.func48, Try.ntmps48; (go_wp2_with fail))
          refine (Hk.out _).mono ?_
          rintro e w' ⟨rfl, rfl⟩
          go_wp2_with fail
          (go_ret; exact ⟨rfl, (by repeat (first | with_reducible exact Below.refl _ _ | with_reducible assumption | with_reducible refine Below.drew ?_ | with_reducible refine below_drawn ?_ | with_reducible refine Below.alloc ?_ (by first | omega | (simp; done) | (simp; omega) | (simp at *; omega)) _ | with_reducible refine Below.setCell ?_ (by first | omega | (simp; done) | (simp; omega) | (simp at *; omega)) _ | with_reducible refine Below.trans ?_ (Below.mono (by assumption) (by first | omega | (simp; done) | (simp; omega) | (simp at *; omega)))))⟩)
        | true =>
          have Hk := Lib.hid (fun w => isKey_any key w true hkk)
          have hq : 1 ≤ key.size ∧ key.size ≤ 16 := by simpa using hkk
          have heq := fun w => eql_ch ⟨1, zone, 0, 0, key⟩ ⟨1, zone, epoch, tt, key⟩ w r (by rw [← hr]; simp [eqC, hq.1, hq.2, dec0])
          simp only at heq
          clear hr hkk hq
          (go_enter Try.func48, Try.ntmps48; (go_wp2_with fail))
          refine (Hk.out _).mono ?_
          rintro e w' ⟨rfl, rfl⟩
          go_wp2_with fail
          (go_ret; exact ⟨rfl, (by repeat (first | with_reducible exact Below.refl _ _ | with_reducible assumption | with_reducible refine Below.drew ?_ | with_reducible refine below_drawn ?_ | with_reducible refine Below.alloc ?_ (by first | omega | (simp; done) | (simp; omega) | (simp at *; omega)) _ | with_reducible refine Below.setCell ?_ (by first | omega | (simp; done) | (simp; omega) | (simp at *; omega)) _ | with_reducible refine Below.trans ?_ (Below.mono (by assumption) (by first | omega | (simp; done) | (simp; omega) | (simp at *; omega)))))⟩)
      · by_cases k2 : kind = 2
        · subst k2
          rw [if_neg (by decide), if_pos rfl] at hr
          have heq := fun w => eql_ch ⟨2, zone, 0, 0, ⟨#[]⟩⟩ ⟨2, zone, epoch, tt, key⟩ w r (by rw [← hr]; simp [eqC, dec0])
          simp only at heq
          clear hr k1
          (go_enter Try.func48, Try.ntmps48; (go_wp2_with fail))
          (go_ret; exact ⟨rfl, (by repeat (first | with_reducible exact Below.refl _ _ | with_reducible assumption | with_reducible refine Below.drew ?_ | with_reducible refine below_drawn ?_ | with_reducible refine Below.alloc ?_ (by first | omega | (simp; done) | (simp; omega) | (simp at *; omega)) _ | with_reducible refine Below.setCell ?_ (by first | omega | (simp; done) | (simp; omega) | (simp at *; omega)) _ | with_reducible refine Below.trans ?_ (Below.mono (by assumption) (by first | omega | (simp; done) | (simp; omega) | (simp at *; omega)))))⟩)
        · by_cases k3 : kind = 3
          · subst k3
            rw [if_neg (by decide), if_neg (by decide), if_pos rfl] at hr
            by_cases q1 : 1 ≤ tt
            · by_cases q2 : tt ≤ 1048576
              · have heq := fun w => eql_ch ⟨3, zone, 0, tt, ⟨#[]⟩⟩ ⟨3, zone, epoch, tt, key⟩ w r (by rw [← hr]; simp [eqC, q1, q2, dec0])
                simp only at heq
                have d2 : decide (tt ≤ 1048576) = true := by rw [decide_eq_true_eq]; exact q2
                have d1 : decide (1 ≤ tt) = true := by rw [decide_eq_true_eq]; exact q1
                clear hr k1 k2
                (go_enter Try.func48, Try.ntmps48; (go_wp2_with fail))
                (go_ret; exact ⟨rfl, (by repeat (first | with_reducible exact Below.refl _ _ | with_reducible assumption | with_reducible refine Below.drew ?_ | with_reducible refine below_drawn ?_ | with_reducible refine Below.alloc ?_ (by first | omega | (simp; done) | (simp; omega) | (simp at *; omega)) _ | with_reducible refine Below.setCell ?_ (by first | omega | (simp; done) | (simp; omega) | (simp at *; omega)) _ | with_reducible refine Below.trans ?_ (Below.mono (by assumption) (by first | omega | (simp; done) | (simp; omega) | (simp at *; omega)))))⟩)
              · obtain rfl : r = false := by rw [← hr]; simp [q2]
                have d2 : decide (tt ≤ 1048576) = false := by rw [decide_eq_false_iff_not]; exact q2
                have d1 : decide (1 ≤ tt) = true := by rw [decide_eq_true_eq]; exact q1
                clear hr k1 k2
                (go_enter Try.func48, Try.ntmps48; (go_wp2_with fail))
                (go_ret; exact ⟨rfl, (by repeat (first | with_reducible exact Below.refl _ _ | with_reducible assumption | with_reducible refine Below.drew ?_ | with_reducible refine below_drawn ?_ | with_reducible refine Below.alloc ?_ (by first | omega | (simp; done) | (simp; omega) | (simp at *; omega)) _ | with_reducible refine Below.setCell ?_ (by first | omega | (simp; done) | (simp; omega) | (simp at *; omega)) _ | with_reducible refine Below.trans ?_ (Below.mono (by assumption) (by first | omega | (simp; done) | (simp; omega) | (simp at *; omega)))))⟩)
            · obtain rfl : r = false := by rw [← hr]; simp [q1]
              have d1 : decide (1 ≤ tt) = false := by rw [decide_eq_false_iff_not]; exact q1
              clear hr k1 k2
              (go_enter Try.func48, Try.ntmps48; (go_wp2_with fail))
              (go_ret; exact ⟨rfl, (by repeat (first | with_reducible exact Below.refl _ _ | with_reducible assumption | with_reducible refine Below.drew ?_ | with_reducible refine below_drawn ?_ | with_reducible refine Below.alloc ?_ (by first | omega | (simp; done) | (simp; omega) | (simp at *; omega)) _ | with_reducible refine Below.setCell ?_ (by first | omega | (simp; done) | (simp; omega) | (simp at *; omega)) _ | with_reducible refine Below.trans ?_ (Below.mono (by assumption) (by first | omega | (simp; done) | (simp; omega) | (simp at *; omega)))))⟩)
          · by_cases k4 : kind = 4 ∨ kind = 5
            · rw [if_neg k1, if_neg k2, if_neg k3, if_pos k4] at hr
              by_cases q1 : 1 ≤ epoch
              · have d1 : decide (1 ≤ epoch) = true := by rw [decide_eq_true_eq]; exact q1
                by_cases q2 : epoch ≤ 1099511627776
                · have d2 : decide (epoch ≤ 1099511627776) = true := by rw [decide_eq_true_eq]; exact q2
                  have heq := fun w => eql_ch ⟨kind, zone, epoch, 0, ⟨#[]⟩⟩ ⟨kind, zone, epoch, tt, key⟩ w r (by rw [← hr]; simp [eqC, q1, q2, dec0])
                  simp only at heq
                  clear hr k1 k2 k3
                  rcases k4 with rfl | rfl
                  · (go_enter Try.func48, Try.ntmps48; (go_wp2_with fail))
                    (go_ret; exact ⟨rfl, (by repeat (first | with_reducible exact Below.refl _ _ | with_reducible assumption | with_reducible refine Below.drew ?_ | with_reducible refine below_drawn ?_ | with_reducible refine Below.alloc ?_ (by first | omega | (simp; done) | (simp; omega) | (simp at *; omega)) _ | with_reducible refine Below.setCell ?_ (by first | omega | (simp; done) | (simp; omega) | (simp at *; omega)) _ | with_reducible refine Below.trans ?_ (Below.mono (by assumption) (by first | omega | (simp; done) | (simp; omega) | (simp at *; omega)))))⟩)
                  · (go_enter Try.func48, Try.ntmps48; (go_wp2_with fail))
                    (go_ret; exact ⟨rfl, (by repeat (first | with_reducible exact Below.refl _ _ | with_reducible assumption | with_reducible refine Below.drew ?_ | with_reducible refine below_drawn ?_ | with_reducible refine Below.alloc ?_ (by first | omega | (simp; done) | (simp; omega) | (simp at *; omega)) _ | with_reducible refine Below.setCell ?_ (by first | omega | (simp; done) | (simp; omega) | (simp at *; omega)) _ | with_reducible refine Below.trans ?_ (Below.mono (by assumption) (by first | omega | (simp; done) | (simp; omega) | (simp at *; omega)))))⟩)
                · have d2 : decide (epoch ≤ 1099511627776) = false := by rw [decide_eq_false_iff_not]; exact q2
                  obtain rfl : r = false := by rw [← hr]; simp [q2]
                  clear hr k1 k2 k3
                  rcases k4 with rfl | rfl
                  · (go_enter Try.func48, Try.ntmps48; (go_wp2_with fail))
                    (go_ret; exact ⟨rfl, (by repeat (first | with_reducible exact Below.refl _ _ | with_reducible assumption | with_reducible refine Below.drew ?_ | with_reducible refine below_drawn ?_ | with_reducible refine Below.alloc ?_ (by first | omega | (simp; done) | (simp; omega) | (simp at *; omega)) _ | with_reducible refine Below.setCell ?_ (by first | omega | (simp; done) | (simp; omega) | (simp at *; omega)) _ | with_reducible refine Below.trans ?_ (Below.mono (by assumption) (by first | omega | (simp; done) | (simp; omega) | (simp at *; omega)))))⟩)
                  · (go_enter Try.func48, Try.ntmps48; (go_wp2_with fail))
                    (go_ret; exact ⟨rfl, (by repeat (first | with_reducible exact Below.refl _ _ | with_reducible assumption | with_reducible refine Below.drew ?_ | with_reducible refine below_drawn ?_ | with_reducible refine Below.alloc ?_ (by first | omega | (simp; done) | (simp; omega) | (simp at *; omega)) _ | with_reducible refine Below.setCell ?_ (by first | omega | (simp; done) | (simp; omega) | (simp at *; omega)) _ | with_reducible refine Below.trans ?_ (Below.mono (by assumption) (by first | omega | (simp; done) | (simp; omega) | (simp at *; omega)))))⟩)
              · have d1 : decide (1 ≤ epoch) = false := by rw [decide_eq_false_iff_not]; exact q1
                obtain rfl : r = false := by rw [← hr]; simp [q1]
                clear hr k1 k2 k3
                rcases k4 with rfl | rfl
                · (go_enter Try.func48, Try.ntmps48; (go_wp2_with fail))
                  (go_ret; exact ⟨rfl, (by repeat (first | with_reducible exact Below.refl _ _ | with_reducible assumption | with_reducible refine Below.drew ?_ | with_reducible refine below_drawn ?_ | with_reducible refine Below.alloc ?_ (by first | omega | (simp; done) | (simp; omega) | (simp at *; omega)) _ | with_reducible refine Below.setCell ?_ (by first | omega | (simp; done) | (simp; omega) | (simp at *; omega)) _ | with_reducible refine Below.trans ?_ (Below.mono (by assumption) (by first | omega | (simp; done) | (simp; omega) | (simp at *; omega)))))⟩)
                · (go_enter Try.func48, Try.ntmps48; (go_wp2_with fail))
                  (go_ret; exact ⟨rfl, (by repeat (first | with_reducible exact Below.refl _ _ | with_reducible assumption | with_reducible refine Below.drew ?_ | with_reducible refine below_drawn ?_ | with_reducible refine Below.alloc ?_ (by first | omega | (simp; done) | (simp; omega) | (simp at *; omega)) _ | with_reducible refine Below.setCell ?_ (by first | omega | (simp; done) | (simp; omega) | (simp at *; omega)) _ | with_reducible refine Below.trans ?_ (Below.mono (by assumption) (by first | omega | (simp; done) | (simp; omega) | (simp at *; omega)))))⟩)
            · rw [if_neg k1, if_neg k2, if_neg k3, if_neg k4] at hr
              subst hr
              have e1 : (kind == 1) = false := by rw [beq_eq_false_iff_ne]; exact k1
              have e2 : (kind == 2) = false := by rw [beq_eq_false_iff_ne]; exact k2
              have e3 : (kind == 3) = false := by rw [beq_eq_false_iff_ne]; exact k3
              have e4 : (kind == 4) = false := by rw [beq_eq_false_iff_ne]; exact fun h => k4 (.inl h)
              have e5 : (kind == 5) = false := by rw [beq_eq_false_iff_ne]; exact fun h => k4 (.inr h)
              clear k1 k2 k3 k4
              (go_enter Try.func48, Try.ntmps48; (go_wp2_with fail))
              (go_ret; exact ⟨rfl, (by repeat (first | with_reducible exact Below.refl _ _ | with_reducible assumption | with_reducible refine Below.drew ?_ | with_reducible refine below_drawn ?_ | with_reducible refine Below.alloc ?_ (by first | omega | (simp; done) | (simp; omega) | (simp at *; omega)) _ | with_reducible refine Below.setCell ?_ (by first | omega | (simp; done) | (simp; omega) | (simp at *; omega)) _ | with_reducible refine Below.trans ?_ (Below.mono (by assumption) (by first | omega | (simp; done) | (simp; omega) | (simp at *; omega)))))⟩)
    · have a2 : decide (1099511627776 < zone) = true := by rw [decide_eq_true_eq]; omega
      rw [decide_eq_false (fun h => z2 h.2), Bool.false_and] at hr
      subst hr
      clear z1 z2
      (go_enter Try.func48, Try.ntmps48; (go_wp2_with fail))
      (go_ret; exact ⟨rfl, (by repeat (first | with_reducible exact Below.refl _ _ | with_reducible assumption | with_reducible refine Below.drew ?_ | with_reducible refine below_drawn ?_ | with_reducible refine Below.alloc ?_ (by first | omega | (simp; done) | (simp; omega) | (simp at *; omega)) _ | with_reducible refine Below.setCell ?_ (by first | omega | (simp; done) | (simp; omega) | (simp at *; omega)) _ | with_reducible refine Below.trans ?_ (Below.mono (by assumption) (by first | omega | (simp; done) | (simp; omega) | (simp at *; omega)))))⟩)
  · have a1 : decide (zone < 1) = true := by rw [decide_eq_true_eq]; omega
    rw [decide_eq_false (fun h => z1 h.1), Bool.false_and] at hr
    subst hr
    clear z1
    (go_enter Try.func48, Try.ntmps48; (go_wp2_with fail))
    (go_ret; exact ⟨rfl, (by repeat (first | with_reducible exact Below.refl _ _ | with_reducible assumption | with_reducible refine Below.drew ?_ | with_reducible refine below_drawn ?_ | with_reducible refine Below.alloc ?_ (by first | omega | (simp; done) | (simp; omega) | (simp at *; omega)) _ | with_reducible refine Below.setCell ?_ (by first | omega | (simp; done) | (simp; omega) | (simp at *; omega)) _ | with_reducible refine Below.trans ?_ (Below.mono (by assumption) (by first | omega | (simp; done) | (simp; omega) | (simp at *; omega)))))⟩)
end Go.Proofs.Ytobnibdeimiinaa
