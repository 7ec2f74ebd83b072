/- OctetSmall: a number has as few bytes as it can; its first byte tells whether it is below 128. -/
import Derived.Test.YtofkjogjnhnchaaKnown
import Derived.Test.YtofkjogjnhnchaaOpenB
import Derived.Test.YtofkjogjnhnchaaRows
namespace Go.Proofs.Ytofkjogjnhnchaa
open Go.RowKit Go.Joins

theorem encN_head {u : Nat} (h : ¬ u < 128) (hu : u ≤ 4611686018427387904) : ∃ r, encN u = UInt8.ofNat (u % 128 + 128) :: r := ⟨_, encN_big h hu⟩
theorem encN_last : ∀ (n u : Nat), u < n → 0 < u → u ≤ 4611686018427387904 → ∃ r c, encN u = r ++ [c] ∧ c ≠ 0
  | 0, _, h, _, _ => by omega
  | n + 1, u, h, h0, hu => by
    by_cases h1 : u < 128
    · refine ⟨[], UInt8.ofNat u, encN_small h1, fun e => ?_⟩
      have := congrArg UInt8.toNat e
      simp at this
      omega
    · obtain ⟨r, c, e, hc⟩ := encN_last n (u / 128) (by omega) (by omega) (by omega)
      exact ⟨UInt8.ofNat (u % 128 + 128) :: r, c, by rw [encN_big h1 hu, e]; rfl, hc⟩
def lenN (u : Nat) : Nat := if u = 0 then 0 else (encN u).length
theorem lenN_step {u : Nat} (h : 0 < u) (hu : u ≤ 4611686018427387904) : lenN u = 1 + lenN (u / 128) := by
  unfold lenN
  rw [if_neg (by omega)]
  by_cases h1 : u < 128
  · rw [encN_small h1, if_pos (by omega)]; rfl
  · rw [encN_big h1 hu, if_neg (by omega)]; simp; omega
theorem encN_len (u : Nat) (hu : u ≤ 4611686018427387904) : (encN u).length = 1 + lenN (u / 128) := by
  by_cases h : u = 0
  · subst h; rfl
  · rw [← lenN_step (by omega) hu]; unfold lenN; rw [if_neg h]

set_option maxHeartbeats 2000000 in
theorem small_walk (v : Int) (w : World) : Calls Try.prog 3 #[.int .i64 v] w fun e w' => e = .returned (.bool true) ∧ Below w.heap.size w w' := by
  by_cases hneg : v < 0 ∨ 4611686018427387904 < v
  · by_cases h0 : v < 0
    all_goals
      go_enter Try.func3, Try.ntmps3
      go_wp2_with fail
      all_goals first | (exfalso; omega) | skip
      refine (known_any _).mono ?_
      rintro e w1 ⟨rfl, hb⟩
      go_wp2_with fail
      go_ret
      exact ⟨rfl, hb⟩
  · obtain ⟨u, rfl⟩ : ∃ u : Nat, v = u := ⟨v.toNat, by omega⟩
    have hu : u ≤ 4611686018427387904 := by omega
    have hlen := encN_len u hu
    have Hlen := Lib.hid hlen
    clear hlen
    go_enter Try.func3, Try.ntmps3
    go_wp2_with fail
    all_goals first | (exfalso; omega) | skip
    have hn := nums_some w.heap.size w.heap.size [] none (w.heap.size + 1) 0 1 [(u : Int)] ((w.alloc (.cells #[.slice none 0 0] 25)).alloc (.cells #[.int .i64 u] 3)) ((wr_new w w.heap.size _ rfl).grow (below_alloc _ _)) (fun i hi => by
      match i, hi with
      | 0, _ => rw [cell_alloc_mark_at _ _ _ _ _ _ (by simp)]; rfl) (by simp) (by omega) (by simp) (by simp only [World.alloc, Array.size_push]; omega) (by simp)
    refine hn.mono ?_
    rintro e w1 ⟨rfl, h1⟩
    obtain ⟨o1, hw1, hk1, hf1⟩ := h1.done
    rw [show [] ++ encs [(u : Int)] = encN u from by simp only [encs, List.flatMap_cons, List.flatMap_nil, List.append_nil, List.nil_append]; congr 1; unfold clampN; omega] at hw1
    have hb1 : Below w.heap.size w w1 := (((below_alloc w _).alloc (by simp) _)).trans (hk1.below (fun x s => by rcases s with s | s; omega; cases s) (by simp only [World.alloc, Array.size_push]; omega))
    have Hw1 := Lib.hid hw1
    have Hb1 := Lib.hid hb1
    clear hn h1 hw1 hk1 hf1 hb1
    go_wp2_with fail
    have hl10 := encN_length u
    refine (out_any _ _ _ _ _ Hw1.out (by omega)).mono ?_
    rintro e w2 ⟨ao, cap, rfl, ho2, hb2⟩
    obtain ⟨g, rfl, hg1, hg2, hrow⟩ := ho2.row hl10.2
    have hle := ho2.le
    have hb2' := Hb1.out.trans (hb2.mono Hb1.out.size)
    have Hb2 := Lib.hid hb2'
    have Hrow := Lib.hid hrow
    clear Hw1 Hb1 hb2 hb2' ho2 hrow
    go_wp2_with fail
    go_loopw [5, 6] (fun s5 s6 wr => wr = w2 ∧ ∃ n x : Nat, s5 = .int .i64 n ∧ s6 = .int .i64 x ∧ x ≤ 4611686018427387904 ∧ n ≤ 20 ∧ Hid (n + lenN x = (encN u).length)) (fun _ s6 _ => (intOf s6).toNat)
    case atStart => exact ⟨rfl, 1, u / 128, rfl, by simp, by omega, by omega, Hlen.out.symm⟩
    case round =>
      obtain ⟨rfl, n, x, rfl, rfl, hx, hn20, hst⟩ := hrel
      by_cases hx0 : (0 : Int) < x
      · have hs := lenN_step (u := x) (by omega) hx
        have hst' := hst.out
        have Hn : Hid (n + 1 + lenN (x / 128) = (encN u).length) := by unfold Hid; omega
        clear hs hst'
        go_wp2_with fail
        go_roundw
        case rel => exact ⟨trivial, n + 1, x / 128, by go_num, by simp, by omega, by have := Hn.out; omega, Hn⟩
        case measure => simp [intOf]; omega
      · have hxz : x = 0 := by omega
        subst hxz
        have hnl : n = (encN u).length := by have := hst.out; simpa [lenN] using this
        clear hst hx
        by_cases h128 : u < 128
        · have h128' : (u : Int) < 128 := by omega
          have hn1 : (encN u).length = 1 := by rw [encN_small h128]; rfl
          obtain rfl : n = 1 := by omega
          have hcell0 : wr.cell? ⟨g, 0, none⟩ = some (.int .u8 u) := by
            have := Hrow.out 0 hl10.2
            rw [Nat.zero_add] at this
            rw [this]
            simp only [encN_small h128, List.getElem_cons_zero, UInt8.toNat_ofNat']
            congr 2
            omega
          clear hnl hl10
          go_wp2_with fail
          refine (known_any _).mono ?_
          rintro e w4 ⟨rfl, hb4⟩
          have Hb4 := Lib.hid (Hb2.out.trans (hb4.mono Hb2.out.size))
          clear hb4
          go_wp2_with fail
          go_ret
          exact ⟨rfl, Hb4.out⟩
        · have hn2 : 2 ≤ n := by rw [hnl, encN_big h128 hu]; have := (encN_length (u / 128)).2; simp; omega
          obtain ⟨c, hc, hc1⟩ : ∃ c : Nat, wr.cell? ⟨g, 0, none⟩ = some (.int .u8 c) ∧ 128 ≤ c := by
            have := Hrow.out 0 hl10.2
            rw [Nat.zero_add] at this
            refine ⟨_, this, ?_⟩
            simp only [encN_big h128 hu, List.getElem_cons_zero, UInt8.toNat_ofNat']
            omega
          obtain ⟨d, hd, hd1⟩ : ∃ d : Nat, wr.cell? ⟨g, n - 1, none⟩ = some (.int .u8 d) ∧ (d : Int) ≠ 0 := by
            obtain ⟨r, c, e, hcz⟩ := encN_last (u + 1) u (by omega) (by omega) hu
            have hr : n - 1 = r.length := by rw [hnl, e]; simp
            have h1 := Hrow.out (n - 1) (by omega)
            rw [Nat.zero_add] at h1
            refine ⟨_, h1, ?_⟩
            have : (encN u)[n - 1]'(by omega) = c := by simp only [e, hr, List.getElem_append_right (Nat.le_refl _), Nat.sub_self, List.getElem_cons_zero]
            rw [this]
            intro h
            exact hcz (UInt8.toNat_inj.1 (by rw [UInt8.toNat_zero]; omega))
          have hc2 : ¬ (c : Int) < 128 := by omega
          have h128' : ¬ (u : Int) < 128 := by omega
          have hn3 : ¬ (n : Int) = 1 := by omega
          have hidx : (n : Int) - 1 = ((n - 1 : Nat) : Int) := by omega
          have hnl' := hnl.symm
          have hd2 : wr.cell? ⟨g, ((n : Int) - 1).toNat, none⟩ = some (.int .u8 d) := by rw [show ((n : Int) - 1).toNat = n - 1 from by omega]; exact hd
          clear hnl hl10 hidx
          go_wp2_with fail
          refine (known_any _).mono ?_
          rintro e w4 ⟨rfl, hb4⟩
          have Hb4 := Lib.hid (Hb2.out.trans (hb4.mono Hb2.out.size))
          clear hb4
          go_wp2_with fail
          go_ret
          have hd3 : ((d : Int) != 0) = true := by simpa using hd1
          exact ⟨by show Ending.returned (.bool ((n : Int) == 1 || (d : Int) != 0)) = _; rw [hd3, Bool.or_true], Hb4.out⟩

open Go.WideShapes in
theorem open_int {W : World} {b : Nat} {v : Value} (hv : Value.okWide Try.prog W .any b 3 v) : ∃ n, v = .int .i64 n := by
  obtain ⟨m, rfl⟩ := okWide_int Try.underlying3 hv
  exact ⟨m, rfl⟩

namespace OctetSmallLift
open Go.ChangeShapes Go.WideShapes Go.ChangeAt Go.RowKit Go.Joins Go.Deep
open Go.ChangeMaps (open_string shut_string)

theorem own : ownKnob Try.prog.godebug = none := by kernel_rfl
theorem laidOut : laidOutB Try.prog = true := by kernel_rfl

set_option maxHeartbeats 1000000 in
set_option maxRecDepth 100000 in
theorem lifted (os : Os) (started : os.Started) (H : Type) (enc : TypeId × Value → H) :
    ReturnsInHanded {} Try.checked os 3 .any (Rows.octetSmallSpec.pre6 enc Try.prog Try.f3 Rows.octetSmallRow.domain false) (Rows.octetSmallSpec.post enc Try.prog Try.f3 false true false false) := by
  refine returnsInHanded_of_change (C := Try.checked) own started (by kernel_rfl) Try.func3
    (ChangeSpec.witness6 (enc := enc) (C := Try.checked) false ⟨#[], #[.int .i64 0], []⟩ 8 (by kernel_rfl) (by kernel_rfl) (by kernel_rfl) (by kernel_rfl)) ?_
  intro W base args ds gs before hval0 hW hcnd _
  have hval : ∀ (j : Nat) t v, Try.f3.params[j]? = some t → args[j]? = some v → Value.okWide Try.prog W .any base t v := hval0
  have hW' := hW
  obtain ⟨p, q, hA0, hV, rfl, hfz, hnd⟩ := hW
  have hA : DataW.TrodAll enc Try.prog W 0 (fun _ => true) true Try.f3.params.toList args.toList ds p := hA0
  rw [Try.params3] at hA hval
  obtain ⟨v0, vs0, d0, ds0, p0, q0, hargs, rfl, rfl, h0, r0⟩ := trodAll_cons hA
  obtain ⟨rfl, rfl, rfl⟩ := trodAll_nil r0
  obtain rfl : args = #[v0] := by cases args; simp_all
  obtain ⟨rfl, rfl⟩ := trodVars_none hV
  have k0 := h0
  have lt0 : ∀ x ∈ p0, x.block < W.heap.size := by obtain ⟨m, hm⟩ := k0; exact DataW.trod_lt m _ _ _ hm
  have post : ∀ e W', e = Ending.returned (.bool true) → Below W.heap.size W W' → ∃ v, e = .returned v ∧ Rows.octetSmallSpec.post enc Try.prog Try.f3 false true false false W #[v0] v W' := by
    intro e W' he bel
    subst he
    exact ⟨_, rfl, _, _, _, [], _, [], hW', trodAll_mk1 (shut_bool Try.underlying4 _), (trodAll_cons_mk (Below.trod laidOut (by kernel_rfl) (of_decide_eq_true (by kernel_rfl)) k0 bel lt0) trodAll_mk0), rfl, bel.frame _, fun h => by cases h⟩
  clear hW' hcnd hfz hnd hA0 hA hval0
  obtain ⟨v, rfl⟩ := open_int (hval 0 3 v0 rfl rfl)
  exact (small_walk v W).mono fun e W' ⟨he, bel⟩ => post e W' he bel

theorem over : Rows.octetSmallRow.holds Try.pinned (OpenSpec.ofChange Rows.octetSmallSpec) :=
  OpenClaim.holds_of_wide 3 Try.f3 rfl rfl rfl rfl rfl rfl rfl ⟨rfl, rfl, rfl, rfl, rfl⟩ rfl rfl rfl rfl rfl (by kernel_rfl) Try.func3 (by kernel_rfl)
    (of_decide_eq_true (by kernel_rfl)) (by unfold Func.isWrapper; first | (rw [if_pos (by decide +kernel)]; kernel_rfl) | (rw [if_neg (by decide +kernel)]; exact ⟨rfl, rfl⟩))
    (fun os started H enc _ => lifted os started H enc)
end OctetSmallLift

/-- The statement. -/
theorem octetSmall_holds : Rows.OctetSmallSaid := OctetSmallLift.over
#print axioms octetSmall_holds
end Go.Proofs.Ytofkjogjnhnchaa
