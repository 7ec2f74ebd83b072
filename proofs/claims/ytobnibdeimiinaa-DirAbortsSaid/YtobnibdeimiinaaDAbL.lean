/- A move that is aborted leaves the Owner, with a greater Epoch; its end is then none: the statement DirAborts. -/
import Derived.Test.YtobnibdeimiinaaDKnown
import Derived.Test.YtobnibdeimiinaaOpen
import Derived.Test.YtobnibdeimiinaaRows
namespace Go.Proofs.Ytobnibdeimiinaa
open Go.RowKit Go.Joins

set_option maxRecDepth 100000 in
open Go.WideShapes in
theorem open_int1 {W : World} {b : Nat} {v : Value} (hv : Value.okWide Try.prog W .any b 3 v) : ∃ n, v = .int .i64 n := by
  obtain ⟨m, rfl⟩ := okWide_int Try.underlying3 hv
  exact ⟨m, rfl⟩
def hosts6 : List Int := [8, 9, 10, 11, 12, 13]
def mAb (i : Nat) : Mp := ⟨1 + 2 * (i : Int), 2, [⟨1, z0, z0, 8, (i : Int) + 1, 0, 0, z0, 0⟩]⟩
def mAc (i : Nat) (t : Int) : Mp := ⟨2 + 2 * (i : Int), 2, [⟨1, z0, z0, 8, (i : Int) + 1, 3, t, z0, 0⟩]⟩
theorem z0nil : z0.toList = [] := by kernel_rfl
theorem ab1 (i : Nat) (hi : i ≤ 30) (t : Int) (h : 9 ≤ t ∧ t ≤ 13) : applyM hosts6 (mAb i) ⟨3, 1, 0, t, z0⟩ = some (mAc i t) := by
  have h1 : (1 : Int) ≤ t := by omega
  have h2 : t ≤ 1048576 := by omega
  have h3 : t ∈ hosts6 := by simp [hosts6]; omega
  have h4 : ¬ t = 8 := by omega
  have h5 : 1 + 2 * (i : Int) < 1099511627776 := by omega
  simp [applyM, mayC, mAb, mAc, findZ, changeM, moveM, pendN, z0nil, h1, h2, h3, h4, h5]
  omega
theorem ab2 (i : Nat) (hi : i ≤ 30) (t : Int) : applyM hosts6 (mAc i t) ⟨5, 1, (i : Int) + 1, 0, z0⟩ = some (mAb (i + 1)) := by
  have h5 : 2 + 2 * (i : Int) < 1099511627776 := by omega
  have h6 : (1 : Int) ≤ (i : Int) + 1 ∧ (i : Int) + 1 ≤ 1099511627776 := by omega
  have h7 : ¬ (1099511627776 ≤ (i : Int) + 1) := by omega
  simp [applyM, mayC, mAb, mAc, findZ, changeM, abortM, endedZ, z0nil, h5, h6.2, h7]
  omega
theorem ab3 (i : Nat) (hi : i ≤ 30) : applyM hosts6 (mAb (i + 1)) ⟨4, 1, (i : Int) + 1, 0, z0⟩ = none := by
  have h6 : (1 : Int) ≤ (i : Int) + 1 ∧ (i : Int) + 1 ≤ 1099511627776 := by omega
  simp [applyM, mayC, mAb, findZ, changeM, doneM, z0nil, h6.2]
theorem in6 : ∀ n ∈ hosts6, 1 ≤ n ∧ n ≤ 1048576 := by simp [hosts6]
theorem mAb_inv (t : Int) (h : 9 ≤ t ∧ t ≤ 13) : ∀ i, i ≤ 31 → Inv (mAb i)
  | 0, _ => first8
  | i + 1, hi => apply_inv in6 (apply_inv in6 (mAb_inv t h i (by omega)) (ab1 i (by omega) t h)) (ab2 i (by omega) t)
theorem mAc_inv (t : Int) (h : 9 ≤ t ∧ t ≤ 13) (i : Nat) (hi : i ≤ 30) : Inv (mAc i t) := apply_inv in6 (mAb_inv t h i (by omega)) (ab1 i hi t h)
theorem find_ab (i : Nat) : hasZ (mAb i).zs ⟨#[107]⟩ = some ⟨1, z0, z0, 8, (i : Int) + 1, 0, 0, z0, 0⟩ := by
  have : inB z0 z0 ⟨#[107]⟩ = true := by kernel_rfl
  simp [hasZ, mAb, this]
set_option maxRecDepth 20000 in
set_option maxHeartbeats 2000000 in
theorem aborts_any (t k : Int) (w : World) : Calls Try.prog 8 #[.int .i64 t, .int .i64 k] w fun e w' => e = .returned (.bool true) ∧ Below w.heap.size w w' := by
  by_cases q1 : t < 9
  · have e1 : decide (t < 9) = true := by rw [decide_eq_true_eq]; exact q1
    clear q1
    (go_enter Try.func8, Try.ntmps8; (go_wp2_with fail); (refine (known_any _).mono ?_); (rintro e w2 ⟨rfl, w2_b⟩); (go_wp2_with fail); go_ret; exact ⟨rfl, w2_b⟩)
  have e1 : decide (t < 9) = false := by rw [decide_eq_false_iff_not]; exact q1
  by_cases q2 : 13 < t
  · have e2 : decide (13 < t) = true := by rw [decide_eq_true_eq]; exact q2
    clear q1 q2
    (go_enter Try.func8, Try.ntmps8; (go_wp2_with fail); (refine (known_any _).mono ?_); (rintro e w2 ⟨rfl, w2_b⟩); (go_wp2_with fail); go_ret; exact ⟨rfl, w2_b⟩)
  have e2 : decide (13 < t) = false := by rw [decide_eq_false_iff_not]; exact q2
  by_cases q3 : k < 0
  · have e3 : decide (k < 0) = true := by rw [decide_eq_true_eq]; exact q3
    clear q1 q2 q3
    (go_enter Try.func8, Try.ntmps8; (go_wp2_with fail); (refine (known_any _).mono ?_); (rintro e w2 ⟨rfl, w2_b⟩); (go_wp2_with fail); go_ret; exact ⟨rfl, w2_b⟩)
  have e3 : decide (k < 0) = false := by rw [decide_eq_false_iff_not]; exact q3
  by_cases q4 : 30 < k
  · have e4 : decide (30 < k) = true := by rw [decide_eq_true_eq]; exact q4
    clear q1 q2 q3 q4
    (go_enter Try.func8, Try.ntmps8; (go_wp2_with fail); (refine (known_any _).mono ?_); (rintro e w2 ⟨rfl, w2_b⟩); (go_wp2_with fail); go_ret; exact ⟨rfl, w2_b⟩)
  have e4 : decide (30 < k) = false := by rw [decide_eq_false_iff_not]; exact q4
  obtain ⟨n, rfl⟩ : ∃ n : Nat, k = n := ⟨k.toNat, by omega⟩
  have hn : n ≤ 30 := by omega
  have Ht : Hid (9 ≤ t ∧ t ≤ 13) := ⟨by omega, by omega⟩
  have S0 := Lib.hid ((St.start w).grow (below_allocO w (.cells #[.int .i64 8, .int .i64 9, .int .i64 10, .int .i64 11, .int .i64 12, .int .i64 13] 3)))
  have hia : Hid (IAtD (w.alloc (.cells #[.int .i64 8, .int .i64 9, .int .i64 10, .int .i64 11, .int .i64 12, .int .i64 13] 3)) (some ⟨w.heap.size, 0, none⟩) hosts6) := iat_lit w _ rfl hosts6 3 (0, 0)
  clear q1 q2 q3 q4
  go_enter Try.func8, Try.ntmps8
  go_wp2_with fail
  refine (new_any S0.out (some ⟨w.heap.size, 0, none⟩) 6 hosts6 hia.out (by decide)).mono ?_
  intro e w2 h1
  unfold NewPost at h1
  rw [if_pos (by decide +kernel)] at h1
  obtain ⟨p, g, zc, b, c', rfl, hS⟩ := h1
  have S1 := Lib.hid hS
  clear S0 hia hS e1 e2 e3 e4
  go_wp2_with fail
  go_loopw [7] (fun s wr => ∃ i : Nat, s = .int .i64 i ∧ i ≤ n ∧ Hid (∃ g zc, St w wr (thDir 76 w.heap.size p g zc (mAb i) (some ⟨b, 0, none⟩) 6 c' :: thInts w.heap.size b c' hosts6 :: []))) (fun s _ => n - (intOf s).toNat)
  case atStart => exact ⟨0, rfl, by omega, Lib.hid ⟨g, zc, S1.out⟩⟩
  case round =>
    obtain ⟨i, rfl, hi, hS⟩ := hrel
    obtain ⟨g0, zc0, hS⟩ := hS.out
    have S2 := Lib.hid hS
    clear hS S1
    by_cases hlt : i < n
    · have hi30 : i ≤ 30 := by omega
      go_wp2_with fail
      (refine (apply_at S2.out (mAb_inv t Ht.out i (by omega)) (by decide) ⟨3, 1, 0, t, z0⟩ _ (ab1 i hi30 t Ht.out)).mono ?_); (rintro e w3 ⟨g3, zc3, rfl, hS⟩); (have S3 : Hid (St w w3 (thDir 76 w.heap.size p g3 zc3 (mAc i t) (some ⟨b, 0, none⟩) 6 c' :: thInts w.heap.size b c' hosts6 :: [])) := hS); clear S2 hS; (go_wp2_with fail)
      (refine (apply_at S3.out (mAc_inv t Ht.out i hi30) (by decide) ⟨5, 1, (i : Int) + 1, 0, z0⟩ _ (ab2 i hi30 t)).mono ?_); (rintro e w4 ⟨g4, zc4, rfl, hS⟩); (have S4 : Hid (St w w4 (thDir 76 w.heap.size p g4 zc4 (mAb (i + 1)) (some ⟨b, 0, none⟩) 6 c' :: thInts w.heap.size b c' hosts6 :: [])) := hS); clear S3 hS; (go_wp2_with fail)
      (refine (apply_at S4.out (mAb_inv t Ht.out (i + 1) (by omega)) (by decide) ⟨4, 1, (i : Int) + 1, 0, z0⟩ _ (ab3 i hi30)).mono ?_); (rintro e w5 ⟨g5, zc5, rfl, hS⟩); (have S5 : Hid (St w w5 (thDir 76 w.heap.size p g5 zc5 (mAb (i + 1)) (some ⟨b, 0, none⟩) 6 c' :: thInts w.heap.size b c' hosts6 :: [])) := hS); clear S4 hS; (go_wp2_with fail)
      go_roundw
      case rel => exact ⟨i + 1, by go_num, by omega, Lib.hid ⟨_, _, S5.out⟩⟩
      case measure => simp [intOf]; omega
    · obtain rfl : i = n := by omega
      go_wp2_with fail
      refine (findZn_any S2.out.head (show 1 ≤ 1000 by decide) ⟨#[107]⟩).mono ?_
      rintro e w3 ⟨he, hb⟩
      rw [find_ab] at he
      have he' : e = .returned (.tuple #[.agg #[.int .i64 1, .string ⟨#[]⟩, .string ⟨#[]⟩, .int .i64 8, .int .i64 ((i : Int) + 1), .int .i64 0, .int .i64 0, .string ⟨#[]⟩, .int .i64 0], .bool true]) := he
      subst he'
      have w3_b := S2.out.b.trans (hb.mono S2.out.b.size)
      clear he hb S2
      go_wp2_with fail
      have w3_c := w3_b.alloc w3_b.size (.cells #[.int .i64 1, .string ⟨#[]⟩, .string ⟨#[]⟩, .int .i64 8, .int .i64 ((i : Int) + 1), .int .i64 0, .int .i64 0, .string ⟨#[]⟩, .int .i64 0] 39)
      refine (known_any _).mono ?_
      rintro e w4 ⟨rfl, hb4⟩
      have w4_c := w3_c.trans (hb4.mono w3_c.size)
      clear hb4 w3_c w3_b
      go_wp2_with fail
      go_ret
      exact ⟨rfl, w4_c⟩
namespace DirAbortsLift
open Go.ChangeShapes Go.WideShapes Go.ChangeAt Go.RowKit Go.Joins Go.Deep
open Go.ChangeMaps (open_string shut_string)

theorem own : ownKnob Try.prog.godebug = none := by kernel_rfl
theorem laidOut : laidOutB Try.prog = true := by kernel_rfl

set_option maxHeartbeats 1000000 in
set_option maxRecDepth 100000 in
theorem lifted (os : Os) (started : os.Started) (H : Type) (enc : TypeId × Value → H) :
    ReturnsInHanded {} Try.checked os 8 .any (Rows.dirAbortsSpec.pre6 enc Try.prog Try.f8 Rows.dirAbortsRow.domain false) (Rows.dirAbortsSpec.post enc Try.prog Try.f8 false true false false) := by
  refine returnsInHanded_of_change (C := Try.checked) own started (by kernel_rfl) Try.func8
    (ChangeSpec.witness6 (enc := enc) (C := Try.checked) false ⟨#[], #[.int .i64 0, .int .i64 0], []⟩ 8 (by kernel_rfl) (by kernel_rfl) (by kernel_rfl) (by kernel_rfl)) ?_
  intro W base args ds gs before hval0 hW hcnd _
  have hval : ∀ (j : Nat) t v, Try.f8.params[j]? = some t → args[j]? = some v → Value.okWide Try.prog W .any base t v := hval0
  have hW' := hW
  obtain ⟨p, q, hA0, hV, rfl, hfz, hnd⟩ := hW
  have hA : DataW.TrodAll enc Try.prog W 0 (fun _ => true) true Try.f8.params.toList args.toList ds p := hA0
  rw [Try.params8] at hA hval
  obtain ⟨v0, vs0, d0, ds0, p0, q0, hargs, rfl, rfl, h0, r0⟩ := trodAll_cons hA
  obtain ⟨v1, vs1, d1, ds1, p1, q1, rfl, rfl, rfl, h1, r1⟩ := trodAll_cons r0
  obtain ⟨rfl, rfl, rfl⟩ := trodAll_nil r1
  obtain rfl : args = #[v0, v1] := by cases args; simp_all
  obtain ⟨rfl, rfl⟩ := trodVars_none hV
  have k0 := h0
  have lt0 : ∀ x ∈ p0, x.block < W.heap.size := by obtain ⟨m, hm⟩ := k0; exact DataW.trod_lt m _ _ _ hm
  have k1 := h1
  have lt1 : ∀ x ∈ p1, x.block < W.heap.size := by obtain ⟨m, hm⟩ := k1; exact DataW.trod_lt m _ _ _ hm
  have post : ∀ e W', e = Ending.returned (.bool true) → Below W.heap.size W W' → ∃ v, e = .returned v ∧ Rows.dirAbortsSpec.post enc Try.prog Try.f8 false true false false W #[v0, v1] v W' := by
    intro e W' he bel
    subst he
    exact ⟨_, rfl, _, _, _, [], _, [], hW', trodAll_mk1 (shut_bool Try.underlying4 _), (trodAll_cons_mk (Below.trod laidOut (by kernel_rfl) (of_decide_eq_true (by kernel_rfl)) k0 bel lt0) (trodAll_cons_mk (Below.trod laidOut (by kernel_rfl) (of_decide_eq_true (by kernel_rfl)) k1 bel lt1) trodAll_mk0)), rfl, bel.frame _, fun h => by cases h⟩
  clear hW' hcnd hfz hnd hA0 hA hval0
  obtain ⟨x, rfl⟩ := open_int1 (hval 0 3 v0 rfl rfl); obtain ⟨y, rfl⟩ := open_int1 (hval 1 3 v1 rfl rfl)
  exact (aborts_any x y W).mono fun e W' ⟨he, bel⟩ => post e W' he bel

theorem over : Rows.dirAbortsRow.holds Try.pinned (OpenSpec.ofChange Rows.dirAbortsSpec) :=
  OpenClaim.holds_of_wide 8 Try.f8 rfl rfl rfl rfl rfl rfl rfl ⟨rfl, rfl, rfl, rfl, rfl⟩ rfl rfl rfl rfl rfl (by kernel_rfl) Try.func8 (by kernel_rfl)
    (of_decide_eq_true (by kernel_rfl)) (by unfold Func.isWrapper; first | (rw [if_pos (by decide +kernel)]; kernel_rfl) | (rw [if_neg (by decide +kernel)]; exact ⟨rfl, rfl⟩))
    (fun os started H enc _ => lifted os started H enc)
end DirAbortsLift

/-- The statement. -/
theorem dirAborts_holds : Rows.DirAbortsSaid := DirAbortsLift.over
#print axioms dirAborts_holds
end Go.Proofs.Ytobnibdeimiinaa
