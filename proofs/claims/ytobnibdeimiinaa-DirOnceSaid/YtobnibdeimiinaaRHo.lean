/- The document's Hosts. -/
import Derived.Test.YtobnibdeimiinaaDNew
namespace Go.Proofs.Ytobnibdeimiinaa
open Go.RowKit

set_option maxRecDepth 20000 in
set_option maxHeartbeats 2000000 in
theorem rhosts_any (ao : Option Addr) (hc : Nat) (l : List Int) (w : World) (h : IAtD w ao l) (hm : l.length ≤ 1000) :
    Calls Try.prog 82 #[.slice ao l.length hc] w fun e w' => e = .returned (.bool (hostsB l)) ∧ Below w.heap.size w w' := by
  have H := Lib.hid h
  clear h
  go_enter Try.func82, Try.ntmps82
  go_wp2_with fail
  go_loopw [3] (fun s wr => ∃ i : Nat, s = .int .i64 i ∧ i ≤ l.length ∧ Hid (∀ j, j < i → okH l j = true) ∧ Below w.heap.size w wr) (fun s _ => l.length - (intOf s).toNat)
  case atStart => exact ⟨0, rfl, by omega, fun j hj => by omega, Below.refl _ _⟩
  case round =>
    obtain ⟨i, rfl, hi, hne, wr_b⟩ := hrel
    by_cases hlt : i < l.length
    · obtain ⟨b, off, rfl, hb, hcell⟩ := H.out (by omega)
      have d0 := (wr_b.cell (p := ⟨b, off + i, none⟩) hb).trans (hcell i hlt)
      have hs := wr_b.size
      have hbr : b < wr.heap.size := by omega
      obtain ⟨v, hv⟩ : ∃ v, v = l.getD i 0 := ⟨_, rfl⟩
      have hv2 : l[i] = v := by rw [hv]; simp [List.getElem?_eq_getElem hlt]
      rw [hv2] at d0
      have Hv := Lib.hid hv
      clear hv hv2
      by_cases h1 : v < 8
      · have e1 : decide (v < 8) = true := by rw [decide_eq_true_eq]; exact h1
        clear hcell
        (have hbad : Hid (hostsB l = false) := Lib.hid (hostsB_bad hlt (by unfold okH; simp only [← Hv.out]; simp; omega))); (go_wp2_with fail); (refine wp_region_gr (by kernel_rfl) (by kernel_rfl) ?_; (repeat (go_big_quiet_step (fail))); refine wpQuiet_nil ?_; intro _ hw'; obtain ⟨g1, hw''⟩ := hw'; subst hw''); (go_wp2_with fail); go_ret; exact ⟨by rw [hbad.out]; rfl, wr_b.trans ((gr_below wr g1).mono (by omega))⟩
      · have e1 : decide (v < 8) = false := by rw [decide_eq_false_iff_not]; exact h1
        by_cases h2 : 14 ≤ v
        · have e2 : decide (14 ≤ v) = true := by rw [decide_eq_true_eq]; exact h2
          clear hcell
          (have hbad : Hid (hostsB l = false) := Lib.hid (hostsB_bad hlt (by unfold okH; simp only [← Hv.out]; simp; omega))); (go_wp2_with fail); (refine wp_region_gr (by kernel_rfl) (by kernel_rfl) ?_; (repeat (go_big_quiet_step (fail))); refine wpQuiet_nil ?_; intro _ hw'; obtain ⟨g1, hw''⟩ := hw'; subst hw''); (go_wp2_with fail); go_ret; exact ⟨by rw [hbad.out]; rfl, wr_b.trans ((gr_below wr g1).mono (by omega))⟩
        · have e2 : decide (14 ≤ v) = false := by rw [decide_eq_false_iff_not]; exact h2
          by_cases h3 : i = 0
          · subst h3
            rw [Nat.add_zero] at d0
            have hok : Hid (okH l 0 = true) := by unfold okH; simp only [← Hv.out]; simp [Hid]; omega
            clear hcell
            go_wp2_with fail
            (refine wp_region_gr (by kernel_rfl) (by kernel_rfl) ?_; (repeat (go_big_quiet_step (fail))); refine wpQuiet_nil ?_; intro _ hw'; obtain ⟨g1, hw''⟩ := hw'; subst hw'')
            go_wp2_with fail
            go_roundw
            case rel => exact ⟨1, by go_num, by omega, fun j hj => by
              obtain rfl : j = 0 := by omega
              exact hok.out, wr_b.trans ((gr_below wr g1).mono (by omega))⟩
            case measure => simp [intOf]; omega
          · obtain ⟨k, rfl⟩ : ∃ k, i = k + 1 := ⟨i - 1, by omega⟩
            have d1 := (wr_b.cell (p := ⟨b, off + k, none⟩) hb).trans (hcell k (by omega))
            obtain ⟨u, hu⟩ : ∃ u, u = l.getD k 0 := ⟨_, rfl⟩
            have hu2 : l[k] = u := by rw [hu]; simp [List.getElem?_eq_getElem (show k < l.length by omega)]
            rw [hu2] at d1
            have Hu := Lib.hid hu
            clear hu hu2 hcell
            have e3 : ((k + 1 : Nat) : Int) - 1 = k := by omega
            by_cases h4 : v ≤ u
            · have e4 : decide (v ≤ u) = true := by rw [decide_eq_true_eq]; exact h4
              have hbad : Hid (hostsB l = false) := Lib.hid (hostsB_bad hlt (by unfold okH; simp only [← Hv.out, Nat.add_sub_cancel, ← Hu.out]; simp; omega))
              go_wp2_with fail
              (refine wp_region_gr (by kernel_rfl) (by kernel_rfl) ?_; (repeat (go_big_quiet_step (fail))); refine wpQuiet_nil ?_; intro _ hw'; obtain ⟨g1, hw''⟩ := hw'; subst hw'')
              go_wp2_with fail
              go_ret
              exact ⟨by rw [hbad.out]; rfl, wr_b.trans ((gr_below wr g1).mono (by omega))⟩
            · have e4 : decide (v ≤ u) = false := by rw [decide_eq_false_iff_not]; exact h4
              have hok : Hid (okH l (k + 1) = true) := by unfold okH; simp only [← Hv.out, Nat.add_sub_cancel, ← Hu.out]; simp [Hid]; omega
              go_wp2_with fail
              (refine wp_region_gr (by kernel_rfl) (by kernel_rfl) ?_; (repeat (go_big_quiet_step (fail))); refine wpQuiet_nil ?_; intro _ hw'; obtain ⟨g1, hw''⟩ := hw'; subst hw'')
              go_wp2_with fail
              go_roundw
              case rel => exact ⟨k + 2, by go_num, by omega, fun j hj => by
                by_cases h : j = k + 1
                · rw [h]; exact hok.out
                · exact hne.out j (by omega), wr_b.trans ((gr_below wr g1).mono (by omega))⟩
              case measure => simp [intOf]; omega
    · have hend := hostsB_end (l := l) (fun j hj => hne.out j (by omega))
      have Hend := Lib.hid hend
      clear hend
      by_cases q1 : 1 ≤ l.length
      · by_cases q2 : l.length ≤ 6
        · have q3 : decide (l.length ≤ 6) = true := by rw [decide_eq_true_eq]; exact q2
          have q5 : decide ((l.length : Int) ≤ 6) = true := by rw [decide_eq_true_eq]; omega
          have q4 : decide (1 ≤ l.length) = true := by rw [decide_eq_true_eq]; exact q1
          go_wp2_with fail
          go_ret
          exact ⟨by rw [Hend.out, q3, q4]; rfl, wr_b⟩
        · have q3 : decide (l.length ≤ 6) = false := by rw [decide_eq_false_iff_not]; exact q2
          have q5 : decide ((l.length : Int) ≤ 6) = false := by rw [decide_eq_false_iff_not]; omega
          have q4 : decide (1 ≤ l.length) = true := by rw [decide_eq_true_eq]; exact q1
          go_wp2_with fail
          go_ret
          exact ⟨by rw [Hend.out, q3, q4]; rfl, wr_b⟩
      · have q4 : decide (1 ≤ l.length) = false := by rw [decide_eq_false_iff_not]; exact q1
        go_wp2_with fail
        go_ret
        exact ⟨by rw [Hend.out, q4]; rfl, wr_b⟩
end Go.Proofs.Ytobnibdeimiinaa
