/- NetOfNothing: a nil Net has no message. -/
import Derived.Test.YtcboflabjdiadaaNetKnown
import Derived.Test.YtcboflabjdiadaaOpenB
import Derived.Test.YtcboflabjdiadaaRows
namespace Go.Proofs.Ytcboflabjdiadaa
open Go.ChangeShapes Go.WideShapes Go.Deep Go.RowKit
open Go.ChangeMaps (open_string shut_string)

theorem msAt_new {w : World} (n : Nat) (hn : n = w.heap.size) {ao : Option Addr} {cap : Nat} {b : List UInt8} (h0 : ao = none → b.length = 0 ∧ cap = 0) (ha : BAt w ao b) (hm : b.length ≤ 140737488351232) (f t : Int) : MsAt (w.alloc (.cells #[.int .i64 f, .int .i64 t, .slice ao b.length cap] 35)) (some ⟨n, 0, none⟩) [⟨f, t, ao, cap, b, false⟩] := by
  subst hn
  exact msAt_obj (heap_new w _) _ rfl fun m hmm => by
    obtain rfl : m = _ := by simpa using hmm
    exact ⟨h0, ha.below (below_allocN _ _), hm, rfl⟩
set_option maxRecDepth 20000 in
set_option maxHeartbeats 2000000 in
theorem nothing_any (n : Int) (ao : Option Addr) (cap : Nat) (b : List UInt8) (w : World) (h0 : ao = none → b.length = 0 ∧ cap = 0) (ha : BAt w ao b) (hc : b.length ≤ 9223372036854775807) :
    Calls Try.prog 8 #[.int .i64 n, .slice ao b.length cap] w fun e w' => e = .returned (.bool true) ∧ Below w.heap.size w w' := by
  by_cases hbig : 8000 < b.length
  · have hbi : (8000 : Int) < b.length := by omega
    clear h0 ha
    go_enter Try.func8, Try.ntmps8
    go_wp2_with fail
    go_ret
    exact ⟨rfl, (by repeat (first | with_reducible exact Below.refl _ _ | with_reducible assumption | with_reducible refine Below.drew ?_ | with_reducible refine below_drawn ?_ | with_reducible refine Below.alloc ?_ (by first | omega | (simp; done) | (simp; omega) | (simp at *; omega)) _ | with_reducible refine Below.setCell ?_ (by first | omega | (simp; done) | (simp; omega) | (simp at *; omega)) _ | with_reducible refine Below.trans ?_ (Below.mono (by assumption) (by first | omega | (simp; done) | (simp; omega) | (simp at *; omega)))))⟩
  · have hbi : ¬ (8000 : Int) < b.length := by omega
    have hm : b.length ≤ 140737488351232 := by omega
    have H0 := Lib.hid h0
    have Ha := Lib.hid ha
    clear h0 ha
    go_enter Try.func8, Try.ntmps8
    go_wp2_with fail
    refine (give_none none n _ (picked_nil_ct n _)).mono ?_
    rintro e w1 ⟨rfl, hb⟩
    have hs1 := hb.size
    unfold zM
    go_wp2_with fail
    have hb2 := hb.alloc hs1 (.cells #[.int .i64 0, .int .i64 0, .slice none 0 0] 35)
    have hMs := msAt_new (w1.heap.size + 1) (by simp) H0.out (Ha.out.below hb2) hm 0 0
    refine (send_nil _ 1 _ _ hMs (by simp)).mono ?_
    rintro e w2 ⟨rfl, hb3⟩
    have b2 := (hb2.alloc hb2.size (.cells #[.int .i64 0, .int .i64 0, .slice ao b.length cap] 35)).trans (hb3.mono (hb2.alloc hb2.size _).size)
    clear hMs hb hb2 hb3
    go_wp2_with fail
    refine (twice_none none n _ (picked_nil n _)).mono ?_
    rintro e w3 ⟨rfl, b3⟩
    have b3 := b2.trans (b3.mono b2.size)
    clear b2
    go_wp2_with fail
    refine (late_none none n _ (picked_nil_ct n _)).mono ?_
    rintro e w4 ⟨rfl, b4⟩
    have b4 := b3.trans (b4.mono b3.size)
    clear b3
    go_wp2_with fail
    refine (spoil_none none n n 1 _ (picked_nil n _)).mono ?_
    rintro e w5 ⟨rfl, b5⟩
    have b5 := b4.trans (b5.mono b4.size)
    clear b4
    go_wp2_with fail
    refine (len_nil _).mono ?_
    rintro e w6 ⟨rfl, rfl⟩
    go_wp2_with fail
    refine (drop_nil _ 1 [n] _).mono ?_
    rintro e w7 ⟨rfl, b7⟩
    have b7 := (b5.alloc b5.size (.cells #[.int .i64 n] 3)).trans (b7.mono (b5.alloc b5.size _).size)
    clear b5
    go_wp2_with fail
    refine (known_any _).mono ?_
    rintro e w8 ⟨rfl, b8⟩
    have b8 := b7.trans (b8.mono b7.size)
    clear b7
    go_wp2_with fail
    go_ret
    exact ⟨rfl, b8⟩

namespace NetOfNothingLift
open Go.ChangeShapes Go.WideShapes Go.ChangeAt Go.RowKit Go.Joins Go.Deep
open Go.ChangeMaps (open_string shut_string)

theorem own : ownKnob Try.prog.godebug = none := by kernel_rfl
theorem laidOut : laidOutB Try.prog = true := by kernel_rfl

set_option maxHeartbeats 1000000 in
set_option maxRecDepth 100000 in
theorem lifted (os : Os) (started : os.Started) (H : Type) (enc : TypeId × Value → H) :
    ReturnsInHanded {} Try.checked os 8 .any (Rows.netOfNothingSpec.pre6 enc Try.prog Try.f8 Rows.netOfNothingRow.domain false) (Rows.netOfNothingSpec.post enc Try.prog Try.f8 false true false false) := by
  refine returnsInHanded_of_change (C := Try.checked) own started (by kernel_rfl) Try.func8
    (ChangeSpec.witness6 (enc := enc) (C := Try.checked) false ⟨#[], #[.int .i64 0, .slice none 0 0], []⟩ 8 (by kernel_rfl) (by kernel_rfl) (by kernel_rfl) (by kernel_rfl)) ?_
  intro W base args ds gs before hval0 hW hcnd _
  have hval : ∀ (j : Nat) t v, Try.f8.params[j]? = some t → args[j]? = some v → Value.okWide Try.prog W .any base t v := hval0
  have hW' := hW
  obtain ⟨p, q, hA0, hV, rfl, hfz, hnd⟩ := hW
  have hA : DataW.TrodAll enc Try.prog W 0 (fun _ => true) true Try.f8.params.toList args.toList ds p := hA0
  rw [Try.params8] at hA hval
  obtain ⟨v0, vs0, d0, ds0, p0, q0, hargs, rfl, rfl, h0, r0⟩ := trodAll_cons hA
  obtain ⟨v1, vs1, d1, ds1, p1, q1, rfl, rfl, rfl, h1, r1⟩ := trodAll_cons r0
  obtain ⟨rfl, rfl, rfl⟩ := trodAll_nil r1
  obtain rfl : args = #[v0, v1] := by cases args; simp_all
  obtain ⟨rfl, rfl⟩ := trodVars_none hV
  have k0 := h0
  have lt0 : ∀ x ∈ p0, x.block < W.heap.size := by obtain ⟨m, hm⟩ := k0; exact DataW.trod_lt m _ _ _ hm
  have k1 := h1
  have lt1 : ∀ x ∈ p1, x.block < W.heap.size := by obtain ⟨m, hm⟩ := k1; exact DataW.trod_lt m _ _ _ hm
  have post : ∀ e W', e = Ending.returned (.bool true) → Below W.heap.size W W' → ∃ v, e = .returned v ∧ Rows.netOfNothingSpec.post enc Try.prog Try.f8 false true false false W #[v0, v1] v W' := by
    intro e W' he bel
    subst he
    exact ⟨_, rfl, _, _, _, [], _, [], hW', trodAll_mk1 (shut_bool Try.underlying4 _), (trodAll_cons_mk (Below.trod laidOut (by kernel_rfl) (of_decide_eq_true (by kernel_rfl)) k0 bel lt0) (trodAll_cons_mk (Below.trod laidOut (by kernel_rfl) (of_decide_eq_true (by kernel_rfl)) k1 bel lt1) trodAll_mk0)), rfl, bel.frame _, fun h => by cases h⟩
  clear hW' hcnd hfz hnd hA0 hA hval0
  obtain ⟨fuel0, hf0⟩ := h0
  obtain ⟨n, e0, -, -⟩ := DataW.trod_int Try.underlying3 hf0
  obtain rfl : v0 = .int .i64 n := by
    have := okWide_int Try.underlying3 (hval 0 3 v0 rfl rfl)
    obtain ⟨m, rfl⟩ := this
    simpa [Value.cells] using e0
  obtain ⟨ao, l, cap, rfl, hlc, hcm, hnone, hat⟩ := open_bytes (hval 1 33 v1 rfl rfl) h1
  exact (nothing_any n ao cap l W hnone hat (by unfold maxLen at hcm; omega)).mono fun e W' ⟨he, bel⟩ => post e W' he bel

theorem over : Rows.netOfNothingRow.holds Try.pinned (OpenSpec.ofChange Rows.netOfNothingSpec) :=
  OpenClaim.holds_of_wide 8 Try.f8 rfl rfl rfl rfl rfl rfl rfl ⟨rfl, rfl, rfl, rfl, rfl⟩ rfl rfl rfl rfl rfl (by kernel_rfl) Try.func8 (by kernel_rfl)
    (of_decide_eq_true (by kernel_rfl)) (by unfold Func.isWrapper; first | (rw [if_pos (by decide +kernel)]; kernel_rfl) | (rw [if_neg (by decide +kernel)]; exact ⟨rfl, rfl⟩))
    (fun os started H enc _ => lifted os started H enc)
end NetOfNothingLift

/-- The statement. -/
theorem netOfNothing_holds : Rows.NetOfNothingSaid := NetOfNothingLift.over
#print axioms netOfNothing_holds
end Go.Proofs.Ytcboflabjdiadaa
