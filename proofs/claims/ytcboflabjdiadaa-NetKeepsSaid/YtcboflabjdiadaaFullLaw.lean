/- NetFull: no more than so many are under way; those beyond are lost. -/
import Derived.Test.YtcboflabjdiadaaNothingLaw
namespace Go.Proofs.Ytcboflabjdiadaa
open Go.ChangeShapes Go.WideShapes Go.Deep Go.RowKit
open Go.ChangeMaps (open_string shut_string)

theorem one_true (w : World) : Calls Try.prog 18 #[.bool true] w fun e w' => 
  e = .returned (.int .i64 1) ∧ w = w' := by
  go_enter Try.func18, Try.ntmps18
  go_wp2_with fail
  go_ret
  exact ⟨rfl, rfl⟩
theorem one_false (w : World) : Calls Try.prog 18 #[.bool false] w fun e w' => 
  e = .returned (.int .i64 0) ∧ w = w' := by
  go_enter Try.func18, Try.ntmps18
  go_wp2_with fail
  go_ret
  exact ⟨rfl, rfl⟩
theorem len_cn {W w : World} {p : Nat} {C : List Ct} {R : List Th} (h : NetAt W w p C R) (n : Nat) (hn : n = C.length) :
    Calls Try.prog 15 #[.pointer (some ⟨p, 0, none⟩)] w fun e w' => e = .returned (.int .i64 n) ∧ w = w' := by
  subst hn; exact len_ct h
set_option maxRecDepth 100000 in
set_option maxHeartbeats 2000000 in
theorem full_any (n : Int) (w : World) :
    Calls Try.prog 5 #[.int .i64 n] w fun e w' => e = .returned (.bool true) ∧ Below w.heap.size w w' := by
  by_cases hneg : n < 0
  · have hb : decide (n < 0) = true := by simpa using hneg
    go_enter Try.func5, Try.ntmps5
    go_wp2_with fail
    refine (known_any _).mono ?_
    rintro e w1 ⟨rfl, hb1⟩
    go_wp2_with fail
    go_ret
    exact ⟨rfl, hb1⟩
  by_cases hbig : 1100 < n
  · have hb : decide (n < 0) = false := by simp; omega
    go_enter Try.func5, Try.ntmps5
    go_wp2_with fail
    refine (known_any _).mono ?_
    rintro e w1 ⟨rfl, hb1⟩
    go_wp2_with fail
    go_ret
    exact ⟨rfl, hb1⟩
  obtain ⟨N, rfl⟩ : ∃ N : Nat, n = N := ⟨n.toNat, by omega⟩
  have hN : N ≤ 1100 := by omega
  have hb1 : decide ((N : Int) < 0) = false := by simp
  have hb2 : decide ((1100 : Int) < N) = false := by simp; omega
  have hlt0 : ¬ (N : Int) < 0 := by omega
  have hlt1 : ¬ (1100 : Int) < N := by omega
  go_enter Try.func5, Try.ntmps5
  go_wp2_with fail
  refine (new_any w).mono ?_
  rintro e w1 ⟨rfl, hw1⟩
  have HN1 : Hid (NetAt w w1 w.heap.size [] []) := by rw [hw1]; exact NetAt.new w
  clear hw1
  go_wp2_with fail
  go_loopw [4, 5] (fun k i wr => ∃ (j : Nat) (C : List Ct), i = .int .i64 j ∧ k = .int .i64 (C.length : Nat) ∧ j ≤ N ∧ C.length ≤ 1024 ∧ Hid (C.length = min j 1024) ∧ Hid (NetAt w wr w.heap.size C [])) (fun _ i _ => N - (intOf i).toNat)
  case atStart => exact ⟨0, [], rfl, rfl, by omega, by simp, rfl, HN1⟩
  case round =>
    obtain ⟨j, C, rfl, rfl, hj, hCl, HC, HN⟩ := hrel
    by_cases hlt : j < N
    · have hz : ∃ z : Nat, z = fits C.length 1 ∧ C.length + z = min (j + 1) 1024 ∧ z ≤ 1 := by
        refine ⟨_, rfl, ?_, ?_⟩
        · have := HC.out; unfold fits; omega
        · unfold fits; omega
      obtain ⟨z, hz, hz2, hz3⟩ := hz
      have Hz := Lib.hid hz
      have Hz2 := Lib.hid hz2
      clear hz hz2
      go_wp2_with fail
      have N2 := HN.out.objN (.cells #[.int .i64 0, .int .i64 j, .slice none 0 0] 35) _ rfl
      refine (send_ct N2 (some ⟨wr.heap.size, 0, none⟩) 1 [⟨0, j, none, 0, [], false⟩] (fun w' X hS => ?_) (by simp) 1 rfl z Hz.out).mono ?_
      · have t1 : (thObj wr.heap.size _).T w' := hS.mem (List.mem_append.2 (.inr (List.mem_cons_self ..)))
        refine msAt_obj t1 _ rfl fun m hm => ?_
        obtain rfl : m = _ := by simpa using hm
        exact ⟨fun _ => ⟨rfl, rfl⟩, BAt.nil, by simp, rfl⟩
      rintro e w2 ⟨rfl, hN2⟩
      have HN2 := Lib.hid hN2.drop
      clear N2 hN2
      go_wp2_with fail
      obtain ⟨C', hC'⟩ : ∃ C', C' = C ++ ([(⟨0, j, none, 0, [], false⟩ : Ms)].take z).map ct := ⟨_, rfl⟩
      have hl' : C'.length = C.length + z := by rw [hC', List.length_append, List.length_map, List.length_take]; simp only [List.length_cons, List.length_nil]; omega
      rw [← hC'] at HN2
      have hzi : (C'.length : Int) = C.length + z := by omega
      have Hl' := Lib.hid hl'
      clear hC' hl'
      go_roundw
      case rel => exact ⟨j + 1, C', by go_num, by rw [hzi], by omega, by have := Hl'.out; have := Hz2.out; omega, by rw [Hl'.out]; exact Hz2, HN2⟩
      case measure => simp [intOf]; omega
    · obtain rfl : j = N := by omega
      have hmin : min (j : Int) 1024 = C.length := by have := HC.out; omega
      obtain ⟨c, hc⟩ : ∃ c, c = C.length := ⟨_, rfl⟩
      have hcj : c = min j 1024 := hc.trans HC.out
      rw [← hc] at hmin hCl ⊢
      have HC2 := Lib.hid hc
      have hco : min (1024 : Int) 1024 = 1024 := by omega
      by_cases hj0 : j = 0
      · have g1 : ¬ (0 : Int) < j := by omega
        have g2 : min (1024 : Int) ((c : Int) + 1) = 1 := by omega
        have g3 : (c : Int) < 1024 := by omega
        have g4 : ((c : Int) == 0) = true := by rw [beq_iff_eq]; omega
        have hC0 : C = [] := List.length_eq_zero_iff.1 (by omega)
        have HN0 : Hid (NetAt w wr w.heap.size [] []) := by rw [← hC0]; exact HN
        have HC3 : Hid (([] : List Ct).length = c) := by rw [← hC0]; exact hc.symm
        clear hc hcj hC0 hj0 HC HN HN1 HC2 hlt
        go_wp2_with fail
        refine (twice_none _ 0 _ (picked_none_ct HN0.out 0 _ (Below.refl _ _))).mono ?_
        rintro e w3 ⟨rfl, hb3⟩
        have HN3 := Lib.hid (HN0.out.grow hb3)
        clear hb3
        go_wp2_with fail
        refine (len_ct HN3.out).mono ?_
        rintro e w4 ⟨rfl, rfl⟩
        rw [HC3.out]
        go_wp2_with fail
        refine (one_true _).mono ?_
        rintro e w4 ⟨rfl, rfl⟩
        go_wp2_with fail
        refine (known_any _).mono ?_
        rintro e w5 ⟨rfl, hb5⟩
        have hb6 := HN3.out.b.trans (hb5.mono HN3.out.b.size)
        clear hb5
        go_wp2_with fail
        go_ret
        exact ⟨rfl, hb6⟩
      by_cases hj1 : j < 1024
      · have g1 : (0 : Int) < j := by omega
        have g2 : min (1024 : Int) ((c : Int) + 1) = (c : Int) + 1 := by omega
        have g3 : (j : Int) < 1024 := by omega
        have hcl : 0 < C.length := by omega
        have hcl2 : C.length < 1024 := by omega
        have HN0 := Lib.hid HN.out
        have HL := Lib.hid hcl
        have HL2 := Lib.hid hcl2
        clear hc hcj hj0 HC HN HN1 hlt hcl hcl2
        go_wp2_with fail
        refine (twice_ct HN0.out 0 0 HL.out (by simp [pickOf]) HL2.out).mono ?_
        rintro e w3 ⟨rfl, hN3⟩
        have HN3 := Lib.hid hN3
        clear hN3
        go_wp2_with fail
        refine (len_cn HN3.out (c + 1) (by rw [List.length_append]; exact congrArg (· + 1) HC2.out)).mono ?_
        rintro e w4 ⟨rfl, rfl⟩
        go_wp2_with fail
        refine (one_false _).mono ?_
        rintro e w4 ⟨rfl, rfl⟩
        go_wp2_with fail
        refine (known_any _).mono ?_
        rintro e w5 ⟨rfl, hb5⟩
        have hb6 := HN3.out.b.trans (hb5.mono HN3.out.b.size)
        clear hb5
        go_wp2_with fail
        go_ret
        exact ⟨rfl, hb6⟩
      · have g1 : (0 : Int) < j := by omega
        have g2 : min (1024 : Int) ((c : Int) + 1) = 1024 := by omega
        have g3 : decide ((j : Int) < 1024) = false := by rw [decide_eq_false_iff_not]; omega
        have g4 : decide ((c : Int) < 1024) = false := by rw [decide_eq_false_iff_not]; omega
        have g5 : ((c : Int) == 1024) = true := by rw [beq_iff_eq]; omega
        have hcl2 : 1024 ≤ C.length := by omega
        have HN0 := Lib.hid HN.out
        have HL2 := Lib.hid hcl2
        clear hc hcj hj0 HC HN HN1 hlt hcl2
        go_wp2_with fail
        refine (twicefull_ct HN0.out 0 HL2.out).mono ?_
        rintro e w3 ⟨rfl, hb3⟩
        have HN3 := Lib.hid (HN0.out.grow hb3)
        clear hb3
        go_wp2_with fail
        refine (len_ct HN3.out).mono ?_
        rintro e w4 ⟨rfl, rfl⟩
        rw [← HC2.out]
        go_wp2_with fail
        refine (one_false _).mono ?_
        rintro e w4 ⟨rfl, rfl⟩
        go_wp2_with fail
        refine (known_any _).mono ?_
        rintro e w5 ⟨rfl, hb5⟩
        have hb6 := HN3.out.b.trans (hb5.mono HN3.out.b.size)
        clear hb5
        go_wp2_with fail
        go_ret
        exact ⟨rfl, hb6⟩

namespace NetFullLift
open Go.ChangeShapes Go.WideShapes Go.ChangeAt Go.RowKit Go.Joins Go.Deep
open Go.ChangeMaps (open_string shut_string)

theorem own : ownKnob Try.prog.godebug = none := by kernel_rfl
theorem laidOut : laidOutB Try.prog = true := by kernel_rfl

set_option maxHeartbeats 1000000 in
set_option maxRecDepth 100000 in
theorem lifted (os : Os) (started : os.Started) (H : Type) (enc : TypeId × Value → H) :
    ReturnsInHanded {} Try.checked os 5 .any (Rows.netFullSpec.pre6 enc Try.prog Try.f5 Rows.netFullRow.domain false) (Rows.netFullSpec.post enc Try.prog Try.f5 false true false false) := by
  refine returnsInHanded_of_change (C := Try.checked) own started (by kernel_rfl) Try.func5
    (ChangeSpec.witness6 (enc := enc) (C := Try.checked) false ⟨#[], #[.int .i64 0], []⟩ 8 (by kernel_rfl) (by kernel_rfl) (by kernel_rfl) (by kernel_rfl)) ?_
  intro W base args ds gs before hval0 hW hcnd _
  have hval : ∀ (j : Nat) t v, Try.f5.params[j]? = some t → args[j]? = some v → Value.okWide Try.prog W .any base t v := hval0
  have hW' := hW
  obtain ⟨p, q, hA0, hV, rfl, hfz, hnd⟩ := hW
  have hA : DataW.TrodAll enc Try.prog W 0 (fun _ => true) true Try.f5.params.toList args.toList ds p := hA0
  rw [Try.params5] at hA hval
  obtain ⟨v0, vs0, d0, ds0, p0, q0, hargs, rfl, rfl, h0, r0⟩ := trodAll_cons hA
  obtain ⟨rfl, rfl, rfl⟩ := trodAll_nil r0
  obtain rfl : args = #[v0] := by cases args; simp_all
  obtain ⟨rfl, rfl⟩ := trodVars_none hV
  have k0 := h0
  have lt0 : ∀ x ∈ p0, x.block < W.heap.size := by obtain ⟨m, hm⟩ := k0; exact DataW.trod_lt m _ _ _ hm
  have post : ∀ e W', e = Ending.returned (.bool true) → Below W.heap.size W W' → ∃ v, e = .returned v ∧ Rows.netFullSpec.post enc Try.prog Try.f5 false true false false W #[v0] v W' := by
    intro e W' he bel
    subst he
    exact ⟨_, rfl, _, _, _, [], _, [], hW', trodAll_mk1 (shut_bool Try.underlying4 _), (trodAll_cons_mk (Below.trod laidOut (by kernel_rfl) (of_decide_eq_true (by kernel_rfl)) k0 bel lt0) trodAll_mk0), rfl, bel.frame _, fun h => by cases h⟩
  clear hW' hcnd hfz hnd hA0 hA hval0
  obtain ⟨fuel0, hf0⟩ := h0
  obtain ⟨n, e0, -, -⟩ := DataW.trod_int Try.underlying3 hf0
  obtain rfl : v0 = .int .i64 n := by
    have := okWide_int Try.underlying3 (hval 0 3 v0 rfl rfl)
    obtain ⟨m, rfl⟩ := this
    simpa [Value.cells] using e0
  exact (full_any n W).mono fun e W' ⟨he, bel⟩ => post e W' he bel

theorem over : Rows.netFullRow.holds Try.pinned (OpenSpec.ofChange Rows.netFullSpec) :=
  OpenClaim.holds_of_wide 5 Try.f5 rfl rfl rfl rfl rfl rfl rfl ⟨rfl, rfl, rfl, rfl, rfl⟩ rfl rfl rfl rfl rfl (by kernel_rfl) Try.func5 (by kernel_rfl)
    (of_decide_eq_true (by kernel_rfl)) (by unfold Func.isWrapper; first | (rw [if_pos (by decide +kernel)]; kernel_rfl) | (rw [if_neg (by decide +kernel)]; exact ⟨rfl, rfl⟩))
    (fun os started H enc _ => lifted os started H enc)
end NetFullLift

/-- The statement. -/
theorem netFull_holds : Rows.NetFullSaid := NetFullLift.over
#print axioms netFull_holds
end Go.Proofs.Ytcboflabjdiadaa
