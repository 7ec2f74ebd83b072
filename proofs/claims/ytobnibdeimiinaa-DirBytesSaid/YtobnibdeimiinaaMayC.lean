/- Whether a change may be: the contract of mayChange. -/
import Derived.Test.YtobnibdeimiinaaZw
namespace Go.Proofs.Ytobnibdeimiinaa
open Go.RowKit

def eqC (a b : Ch) : Bool := decide (a.kind = b.kind ∧ a.zone = b.zone ∧ a.epoch = b.epoch ∧ a.tt = b.tt ∧ a.key.toList = b.key.toList)
set_option maxHeartbeats 1000000 in
theorem eql_ch (a b : Ch) (w : World) (r : Bool) (hr : eqC a b = r) : (Op.equalIn 10000 34 (.agg #[.int .i64 a.kind, .int .i64 a.zone, .int .i64 a.epoch, .int .i64 a.tt, .string a.key]) (.agg #[.int .i64 b.kind, .int .i64 b.zone, .int .i64 b.epoch, .int .i64 b.tt, .string b.key])).run Try.prog w = .ok r w := by
  subst hr
  unfold eqC
  go_simp
  by_cases h1 : a.kind = b.kind
  · by_cases h2 : a.zone = b.zone
    · by_cases h3 : a.epoch = b.epoch
      · by_cases h4 : a.tt = b.tt
        · by_cases h5 : a.key.toList = b.key.toList
          · simp [h1, h2, h3, h4, h5]
          · simp [h1, h2, h3, h4, h5]
        · simp [h1, h2, h3, h4]
      · simp [h1, h2, h3]
    · simp [h1, h2]
  · simp [h1]
set_option maxRecDepth 40000 in
set_option maxHeartbeats 4000000 in
theorem mayC_any (c : Ch) (w : World) (r : Bool) (hr : mayC c = r) :
    Calls Try.prog 37 #[.agg #[.int .i64 c.kind, .int .i64 c.zone, .int .i64 c.epoch, .int .i64 c.tt, .string c.key]] w fun e w' => e = .returned (.bool r) ∧ Below w.heap.size w w' := by
  unfold mayC at hr
  cases hz : decide (1 ≤ c.zone ∧ c.zone ≤ 1099511627776) with
  | false =>
    have Hn := Lib.hid (fun w => isNum_any c.zone w false hz)
    rw [hz, Bool.false_and] at hr
    subst hr
    clear hz
    (go_enter Try.func37, Try.ntmps37; (go_wp2_with fail); (refine (Hn.out _).mono ?_); (rintro e w' ⟨rfl, rfl⟩); (go_wp2_with fail))
    go_ret
    exact ⟨rfl, (by repeat (first | with_reducible exact Below.refl _ _ | with_reducible assumption | with_reducible refine Below.drew ?_ | with_reducible refine below_drawn ?_ | with_reducible refine Below.alloc ?_ (by first | omega | (simp; done) | (simp; omega) | (simp at *; omega)) _ | with_reducible refine Below.setCell ?_ (by first | omega | (simp; done) | (simp; omega) | (simp at *; omega)) _ | with_reducible refine Below.trans ?_ (Below.mono (by assumption) (by first | omega | (simp; done) | (simp; omega) | (simp at *; omega)))))⟩
  | true =>
    have Hn := Lib.hid (fun w => isNum_any c.zone w true hz)
    rw [hz, Bool.true_and] at hr
    clear hz
    obtain ⟨kind, zone, epoch, tt, key⟩ := c
    simp only at hr Hn ⊢
    by_cases k1 : kind = 1
    · subst k1
      rw [if_pos rfl] at hr
      by_cases q1 : 1 ≤ key.size
      · by_cases q2 : key.size ≤ 16
        · have heq := fun w => eql_ch ⟨0, 0, epoch, tt, key⟩ ⟨0, 0, 0, 0, key⟩ w r (by rw [← hr]; simp [eqC, q1, q2])
          simp only at heq
          have d2 : decide ((key.size : Int) ≤ 16) = true := by rw [decide_eq_true_eq]; omega
          clear hr
          (go_enter Try.func37, Try.ntmps37; (go_wp2_with fail); (refine (Hn.out _).mono ?_); (rintro e w' ⟨rfl, rfl⟩); (go_wp2_with fail))
          go_ret
          exact ⟨rfl, (by repeat (first | with_reducible exact Below.refl _ _ | with_reducible assumption | with_reducible refine Below.drew ?_ | with_reducible refine below_drawn ?_ | with_reducible refine Below.alloc ?_ (by first | omega | (simp; done) | (simp; omega) | (simp at *; omega)) _ | with_reducible refine Below.setCell ?_ (by first | omega | (simp; done) | (simp; omega) | (simp at *; omega)) _ | with_reducible refine Below.trans ?_ (Below.mono (by assumption) (by first | omega | (simp; done) | (simp; omega) | (simp at *; omega)))))⟩
        · obtain rfl : r = false := by rw [← hr]; simp [q2]
          have d2 : decide ((key.size : Int) ≤ 16) = false := by rw [decide_eq_false_iff_not]; omega
          clear hr
          (go_enter Try.func37, Try.ntmps37; (go_wp2_with fail); (refine (Hn.out _).mono ?_); (rintro e w' ⟨rfl, rfl⟩); (go_wp2_with fail))
          go_ret
          exact ⟨rfl, (by repeat (first | with_reducible exact Below.refl _ _ | with_reducible assumption | with_reducible refine Below.drew ?_ | with_reducible refine below_drawn ?_ | with_reducible refine Below.alloc ?_ (by first | omega | (simp; done) | (simp; omega) | (simp at *; omega)) _ | with_reducible refine Below.setCell ?_ (by first | omega | (simp; done) | (simp; omega) | (simp at *; omega)) _ | with_reducible refine Below.trans ?_ (Below.mono (by assumption) (by first | omega | (simp; done) | (simp; omega) | (simp at *; omega)))))⟩
      · obtain rfl : r = false := by rw [← hr]; simp [q1]
        clear hr
        (go_enter Try.func37, Try.ntmps37; (go_wp2_with fail); (refine (Hn.out _).mono ?_); (rintro e w' ⟨rfl, rfl⟩); (go_wp2_with fail))
        go_ret
        exact ⟨rfl, (by repeat (first | with_reducible exact Below.refl _ _ | with_reducible assumption | with_reducible refine Below.drew ?_ | with_reducible refine below_drawn ?_ | with_reducible refine Below.alloc ?_ (by first | omega | (simp; done) | (simp; omega) | (simp at *; omega)) _ | with_reducible refine Below.setCell ?_ (by first | omega | (simp; done) | (simp; omega) | (simp at *; omega)) _ | with_reducible refine Below.trans ?_ (Below.mono (by assumption) (by first | omega | (simp; done) | (simp; omega) | (simp at *; omega)))))⟩
    · by_cases k2 : kind = 2
      · subst k2
        rw [if_neg (by decide), if_pos rfl] at hr
        have heq := fun w => eql_ch ⟨0, 0, epoch, tt, key⟩ ⟨0, 0, 0, 0, ⟨#[]⟩⟩ w r (by rw [← hr]; simp [eqC])
        simp only at heq
        clear hr k1
        (go_enter Try.func37, Try.ntmps37; (go_wp2_with fail); (refine (Hn.out _).mono ?_); (rintro e w' ⟨rfl, rfl⟩); (go_wp2_with fail))
        go_ret
        exact ⟨rfl, (by repeat (first | with_reducible exact Below.refl _ _ | with_reducible assumption | with_reducible refine Below.drew ?_ | with_reducible refine below_drawn ?_ | with_reducible refine Below.alloc ?_ (by first | omega | (simp; done) | (simp; omega) | (simp at *; omega)) _ | with_reducible refine Below.setCell ?_ (by first | omega | (simp; done) | (simp; omega) | (simp at *; omega)) _ | with_reducible refine Below.trans ?_ (Below.mono (by assumption) (by first | omega | (simp; done) | (simp; omega) | (simp at *; omega)))))⟩
      · by_cases k3 : kind = 3
        · subst k3
          rw [if_neg (by decide), if_neg (by decide), if_pos rfl] at hr
          by_cases q1 : 1 ≤ tt
          · by_cases q2 : tt ≤ 1048576
            · have heq := fun w => eql_ch ⟨0, 0, epoch, tt, key⟩ ⟨0, 0, 0, tt, ⟨#[]⟩⟩ w r (by rw [← hr]; simp [eqC, q1, q2])
              simp only at heq
              have d2 : decide (tt ≤ 1048576) = true := by rw [decide_eq_true_eq]; exact q2
              clear hr k1 k2
              (go_enter Try.func37, Try.ntmps37; (go_wp2_with fail); (refine (Hn.out _).mono ?_); (rintro e w' ⟨rfl, rfl⟩); (go_wp2_with fail))
              go_ret
              exact ⟨rfl, (by repeat (first | with_reducible exact Below.refl _ _ | with_reducible assumption | with_reducible refine Below.drew ?_ | with_reducible refine below_drawn ?_ | with_reducible refine Below.alloc ?_ (by first | omega | (simp; done) | (simp; omega) | (simp at *; omega)) _ | with_reducible refine Below.setCell ?_ (by first | omega | (simp; done) | (simp; omega) | (simp at *; omega)) _ | with_reducible refine Below.trans ?_ (Below.mono (by assumption) (by first | omega | (simp; done) | (simp; omega) | (simp at *; omega)))))⟩
            · obtain rfl : r = false := by rw [← hr]; simp [q2]
              have d2 : decide (tt ≤ 1048576) = false := by rw [decide_eq_false_iff_not]; exact q2
              clear hr k1 k2
              (go_enter Try.func37, Try.ntmps37; (go_wp2_with fail); (refine (Hn.out _).mono ?_); (rintro e w' ⟨rfl, rfl⟩); (go_wp2_with fail))
              go_ret
              exact ⟨rfl, (by repeat (first | with_reducible exact Below.refl _ _ | with_reducible assumption | with_reducible refine Below.drew ?_ | with_reducible refine below_drawn ?_ | with_reducible refine Below.alloc ?_ (by first | omega | (simp; done) | (simp; omega) | (simp at *; omega)) _ | with_reducible refine Below.setCell ?_ (by first | omega | (simp; done) | (simp; omega) | (simp at *; omega)) _ | with_reducible refine Below.trans ?_ (Below.mono (by assumption) (by first | omega | (simp; done) | (simp; omega) | (simp at *; omega)))))⟩
          · obtain rfl : r = false := by rw [← hr]; simp [q1]
            clear hr k1 k2
            (go_enter Try.func37, Try.ntmps37; (go_wp2_with fail); (refine (Hn.out _).mono ?_); (rintro e w' ⟨rfl, rfl⟩); (go_wp2_with fail))
            go_ret
            exact ⟨rfl, (by repeat (first | with_reducible exact Below.refl _ _ | with_reducible assumption | with_reducible refine Below.drew ?_ | with_reducible refine below_drawn ?_ | with_reducible refine Below.alloc ?_ (by first | omega | (simp; done) | (simp; omega) | (simp at *; omega)) _ | with_reducible refine Below.setCell ?_ (by first | omega | (simp; done) | (simp; omega) | (simp at *; omega)) _ | with_reducible refine Below.trans ?_ (Below.mono (by assumption) (by first | omega | (simp; done) | (simp; omega) | (simp at *; omega)))))⟩
        · by_cases k4 : kind = 4 ∨ kind = 5
          · rw [if_neg k1, if_neg k2, if_neg k3, if_pos k4] at hr
            cases hep : decide (1 ≤ epoch ∧ epoch ≤ 1099511627776) with
            | true =>
              have He := Lib.hid (fun w => isNum_any epoch w true hep)
              have hq : 1 ≤ epoch ∧ epoch ≤ 1099511627776 := by simpa using hep
              have heq := fun w => eql_ch ⟨0, 0, epoch, tt, key⟩ ⟨0, 0, epoch, 0, ⟨#[]⟩⟩ w r (by rw [← hr]; simp [eqC, hq.1, hq.2])
              simp only at heq
              clear hr k1 k2 k3 hep hq
              rcases k4 with rfl | rfl
              · (go_enter Try.func37, Try.ntmps37; (go_wp2_with fail); (refine (Hn.out _).mono ?_); (rintro e w' ⟨rfl, rfl⟩); (go_wp2_with fail))
                refine (He.out _).mono ?_
                rintro e w' ⟨rfl, rfl⟩
                go_wp2_with fail
                go_ret
                exact ⟨rfl, (by repeat (first | with_reducible exact Below.refl _ _ | with_reducible assumption | with_reducible refine Below.drew ?_ | with_reducible refine below_drawn ?_ | with_reducible refine Below.alloc ?_ (by first | omega | (simp; done) | (simp; omega) | (simp at *; omega)) _ | with_reducible refine Below.setCell ?_ (by first | omega | (simp; done) | (simp; omega) | (simp at *; omega)) _ | with_reducible refine Below.trans ?_ (Below.mono (by assumption) (by first | omega | (simp; done) | (simp; omega) | (simp at *; omega)))))⟩
              · (go_enter Try.func37, Try.ntmps37; (go_wp2_with fail); (refine (Hn.out _).mono ?_); (rintro e w' ⟨rfl, rfl⟩); (go_wp2_with fail))
                refine (He.out _).mono ?_
                rintro e w' ⟨rfl, rfl⟩
                go_wp2_with fail
                go_ret
                exact ⟨rfl, (by repeat (first | with_reducible exact Below.refl _ _ | with_reducible assumption | with_reducible refine Below.drew ?_ | with_reducible refine below_drawn ?_ | with_reducible refine Below.alloc ?_ (by first | omega | (simp; done) | (simp; omega) | (simp at *; omega)) _ | with_reducible refine Below.setCell ?_ (by first | omega | (simp; done) | (simp; omega) | (simp at *; omega)) _ | with_reducible refine Below.trans ?_ (Below.mono (by assumption) (by first | omega | (simp; done) | (simp; omega) | (simp at *; omega)))))⟩
            | false =>
              have He := Lib.hid (fun w => isNum_any epoch w false hep)
              obtain rfl : r = false := by
                rw [← hr]
                have hq : ¬ (1 ≤ epoch ∧ epoch ≤ 1099511627776) := by simpa using hep
                rw [decide_eq_false_iff_not]
                rintro ⟨h1, h2, -⟩
                exact hq ⟨h1, h2⟩
              clear hr k1 k2 k3 hep
              rcases k4 with rfl | rfl
              · (go_enter Try.func37, Try.ntmps37; (go_wp2_with fail); (refine (Hn.out _).mono ?_); (rintro e w' ⟨rfl, rfl⟩); (go_wp2_with fail))
                refine (He.out _).mono ?_
                rintro e w' ⟨rfl, rfl⟩
                go_wp2_with fail
                go_ret
                exact ⟨rfl, (by repeat (first | with_reducible exact Below.refl _ _ | with_reducible assumption | with_reducible refine Below.drew ?_ | with_reducible refine below_drawn ?_ | with_reducible refine Below.alloc ?_ (by first | omega | (simp; done) | (simp; omega) | (simp at *; omega)) _ | with_reducible refine Below.setCell ?_ (by first | omega | (simp; done) | (simp; omega) | (simp at *; omega)) _ | with_reducible refine Below.trans ?_ (Below.mono (by assumption) (by first | omega | (simp; done) | (simp; omega) | (simp at *; omega)))))⟩
              · (go_enter Try.func37, Try.ntmps37; (go_wp2_with fail); (refine (Hn.out _).mono ?_); (rintro e w' ⟨rfl, rfl⟩); (go_wp2_with fail))
                refine (He.out _).mono ?_
                rintro e w' ⟨rfl, rfl⟩
                go_wp2_with fail
                go_ret
                exact ⟨rfl, (by repeat (first | with_reducible exact Below.refl _ _ | with_reducible assumption | with_reducible refine Below.drew ?_ | with_reducible refine below_drawn ?_ | with_reducible refine Below.alloc ?_ (by first | omega | (simp; done) | (simp; omega) | (simp at *; omega)) _ | with_reducible refine Below.setCell ?_ (by first | omega | (simp; done) | (simp; omega) | (simp at *; omega)) _ | with_reducible refine Below.trans ?_ (Below.mono (by assumption) (by first | omega | (simp; done) | (simp; omega) | (simp at *; omega)))))⟩
          · rw [if_neg k1, if_neg k2, if_neg k3, if_neg k4] at hr
            subst hr
            have e1 : (kind == 1) = false := by rw [beq_eq_false_iff_ne]; exact k1
            have e2 : (kind == 2) = false := by rw [beq_eq_false_iff_ne]; exact k2
            have e3 : (kind == 3) = false := by rw [beq_eq_false_iff_ne]; exact k3
            have e4 : (kind == 4) = false := by rw [beq_eq_false_iff_ne]; exact fun h => k4 (.inl h)
            have e5 : (kind == 5) = false := by rw [beq_eq_false_iff_ne]; exact fun h => k4 (.inr h)
            clear k1 k2 k3 k4
            (go_enter Try.func37, Try.ntmps37; (go_wp2_with fail); (refine (Hn.out _).mono ?_); (rintro e w' ⟨rfl, rfl⟩); (go_wp2_with fail))
            go_ret
            exact ⟨rfl, (by repeat (first | with_reducible exact Below.refl _ _ | with_reducible assumption | with_reducible refine Below.drew ?_ | with_reducible refine below_drawn ?_ | with_reducible refine Below.alloc ?_ (by first | omega | (simp; done) | (simp; omega) | (simp at *; omega)) _ | with_reducible refine Below.setCell ?_ (by first | omega | (simp; done) | (simp; omega) | (simp at *; omega)) _ | with_reducible refine Below.trans ?_ (Below.mono (by assumption) (by first | omega | (simp; done) | (simp; omega) | (simp at *; omega)))))⟩
end Go.Proofs.Ytobnibdeimiinaa
