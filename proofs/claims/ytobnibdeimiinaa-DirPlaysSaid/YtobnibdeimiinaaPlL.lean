/- Of any hosts and changes whether each applies, and the map: the statement DirPlays. -/
import Derived.Test.YtobnibdeimiinaaPlay
import Derived.Test.YtobnibdeimiinaaDKnown
import Derived.Test.YtobnibdeimiinaaRows
import Derived.ChangeSlices
namespace Go.Proofs.Ytobnibdeimiinaa
section
open Go.ChangeShapes Go.WideShapes Go.Deep Go.RowKit
variable {H : Type} {enc : TypeId × Value → H} {W : World}
set_option maxRecDepth 20000 in
/-- A slice of ints that came in. -/
theorem open_intsN {v : Value} {d : DataW H} {p : List MemPlace} {b : Nat} (hv : Value.okWide Try.prog W .any b 43 v) (h : DataW.Trod enc Try.prog W 0 (fun _ => true) true 43 v d p) :
    ∃ ao l cap, v = .slice ao (l : List Int).length cap ∧ (ao = none → l.length = 0 ∧ cap = 0) ∧ IAtD W ao l := by
  obtain ⟨a1, len1, c1, rfl⟩ := okWide_slice Try.underlying43 hv
  obtain ⟨fuel, hf⟩ := h
  rcases open_ints Try.underlying43 Try.underlying3 (by kernel_rfl : Try.prog.cellsOf 3 = 1) hf with ⟨hcs, hx⟩ | ⟨a, len, cap, zs, hcs, _, hl, hm, hz, hx, hcell, hwz⟩
  · simp [Value.cells] at hcs
    obtain ⟨rfl, rfl, rfl⟩ := hcs
    exact ⟨none, [], 0, rfl, fun _ => ⟨rfl, rfl⟩, fun h => absurd h (by simp)⟩
  · simp [Value.cells] at hcs
    obtain ⟨rfl, rfl, rfl⟩ := hcs
    simp only [if_true] at hz
    have hlen : (zs.take len1).length = len1 := by simp; omega
    refine ⟨some a, zs.take len1, c1, by rw [hlen], fun h => (nomatch h), fun hp => ?_⟩
    rw [hlen] at hp
    obtain ⟨ab, ao, spot⟩ := a
    have hspot : spot = none := by simpa [Addr.add] using World.cell?_spot (hcell 0 (by omega))
    subst hspot
    have h0 := hcell 0 (by omega)
    refine ⟨ab, ao, rfl, ?_, fun i hi => ?_⟩
    · rw [add_none] at h0
      exact lt_of_cellC h0
    · rw [hlen] at hi
      have hci := hcell i (by omega)
      rw [add_none] at hci
      rw [hci]
      have e : zs.getD i 0 = zs[i]'(by omega) := by simp [List.getD, List.getElem?_eq_getElem (show i < zs.length by omega)]
      simp only [e, List.getElem_take]
end
open Go.RowKit Go.Joins

theorem playPost_ok {W : World} {hosts : List Int} {l : List Ch} {e : Ending} {w' : World} (h : PlayPost W hosts l e w') : ∃ a b, e = .returned (.tuple #[a, b, .bool true]) ∧ (∃ x, a = .pointer x) ∧ (∃ x, b = .pointer x) ∧ Below W.heap.size W w' := by
  unfold PlayPost at h
  split at h
  · obtain ⟨p, g, zc, b, c', p2, g2, zc2, b2, c2', rfl, hS⟩ := h
    exact ⟨_, _, rfl, ⟨_, rfl⟩, ⟨_, rfl⟩, hS.b⟩
  · exact ⟨_, _, h.1, ⟨_, rfl⟩, ⟨_, rfl⟩, h.2⟩
set_option maxRecDepth 20000 in
set_option maxHeartbeats 2000000 in
theorem plays_walk (ao : Option Addr) (hc : Nat) (hosts : List Int) (lo : Option Addr) (lc : Nat) (l : List Ch) (w : World) (h0 : ao = none → hosts.length = 0 ∧ hc = 0) (ha : IAtD w ao hosts) (hl : ChAt w lo l) (hlm : l.length ≤ 9223372036854775807) :
    Calls Try.prog 5 #[.slice ao hosts.length hc, .slice lo l.length lc] w fun e w' => e = .returned (.bool true) ∧ Below w.heap.size w w' := by
  obtain ⟨hv, hhv⟩ : ∃ hv, hv = heavyC l := ⟨_, rfl⟩
  have hhe := heavyC_any lo lc l w hl hlm
  rw [← hhv] at hhe
  have Hhe := Lib.hid hhe
  have Hl := Lib.hid hl
  have Ha := Lib.hid ha
  have H0 := Lib.hid h0
  clear hhe hhv hl ha h0
  cases hv with
  | true =>
    go_enter Try.func5, Try.ntmps5
    go_wp2_with fail
    refine Hhe.out.mono ?_
    rintro e w1 ⟨rfl, w1_b⟩
    go_wp2_with fail
    go_ret
    exact ⟨rfl, w1_b⟩
  | false =>
    by_cases h20 : (20 : Int) < hosts.length
    · have e1 : decide ((20 : Int) < hosts.length) = true := by rw [decide_eq_true_eq]; exact h20
      go_enter Try.func5, Try.ntmps5
      go_wp2_with fail
      refine Hhe.out.mono ?_
      rintro e w1 ⟨rfl, w1_b⟩
      go_wp2_with fail
      go_ret
      exact ⟨rfl, w1_b⟩
    · have e1 : decide ((20 : Int) < hosts.length) = false := by rw [decide_eq_false_iff_not]; exact h20
      have hpl : Hid (∀ w1, Below w.heap.size w w1 → Calls Try.prog 19 #[.slice ao hosts.length hc, .slice lo l.length lc] w1 (PlayPost w1 hosts l)) := by
        intro w1 b
        exact played_any ao hc hosts lo lc l w1 H0.out (Ha.out.grow b) (by omega) (Hl.out.grow b) hlm
      obtain ⟨n, hn⟩ : ∃ n, n = hosts.length := ⟨_, rfl⟩
      rw [← hn] at hpl e1 ⊢
      clear hn h20 H0
      go_enter Try.func5, Try.ntmps5
      go_wp2_with fail
      refine Hhe.out.mono ?_
      rintro e w1 ⟨rfl, w1_b⟩
      go_wp2_with fail
      refine (hpl.out _ w1_b).mono ?_
      intro e w2 hp
      obtain ⟨_, _, rfl, ⟨x, rfl⟩, ⟨y, rfl⟩, hb⟩ := playPost_ok hp
      have w2_b := w1_b.trans (hb.mono w1_b.size)
      clear hp hb
      go_wp2_with fail
      refine (known_any _).mono ?_
      rintro e w3 ⟨rfl, hb⟩
      have w3_b := w2_b.trans (hb.mono w2_b.size)
      clear hb
      go_wp2_with fail
      go_ret
      exact ⟨rfl, w3_b⟩
namespace DirPlaysLift
open Go.ChangeShapes Go.WideShapes Go.ChangeAt Go.RowKit Go.Joins Go.Deep
open Go.ChangeMaps (open_string shut_string)

theorem own : ownKnob Try.prog.godebug = none := by kernel_rfl
theorem laidOut : laidOutB Try.prog = true := by kernel_rfl

set_option maxHeartbeats 1000000 in
set_option maxRecDepth 100000 in
theorem lifted (os : Os) (started : os.Started) (H : Type) (enc : TypeId × Value → H) :
    ReturnsInHanded {} Try.checked os 5 .any (Rows.dirPlaysSpec.pre6 enc Try.prog Try.f5 Rows.dirPlaysRow.domain false) (Rows.dirPlaysSpec.post enc Try.prog Try.f5 false true false false) := by
  refine returnsInHanded_of_change (C := Try.checked) own started (by kernel_rfl) Try.func5
    (ChangeSpec.witness6 (enc := enc) (C := Try.checked) false ⟨#[], #[.slice none 0 0, .slice none 0 0], []⟩ 8 (by kernel_rfl) (by kernel_rfl) (by kernel_rfl) (by kernel_rfl)) ?_
  intro W base args ds gs before hval0 hW hcnd _
  have hval : ∀ (j : Nat) t v, Try.f5.params[j]? = some t → args[j]? = some v → Value.okWide Try.prog W .any base t v := hval0
  have hW' := hW
  obtain ⟨p, q, hA0, hV, rfl, hfz, hnd⟩ := hW
  have hA : DataW.TrodAll enc Try.prog W 0 (fun _ => true) true Try.f5.params.toList args.toList ds p := hA0
  rw [Try.params5] at hA hval
  obtain ⟨v0, vs0, d0, ds0, p0, q0, hargs, rfl, rfl, h0, r0⟩ := trodAll_cons hA
  obtain ⟨v1, vs1, d1, ds1, p1, q1, rfl, rfl, rfl, h1, r1⟩ := trodAll_cons r0
  obtain ⟨rfl, rfl, rfl⟩ := trodAll_nil r1
  obtain rfl : args = #[v0, v1] := by cases args; simp_all
  obtain ⟨rfl, rfl⟩ := trodVars_none hV
  have k0 := h0
  have lt0 : ∀ x ∈ p0, x.block < W.heap.size := by obtain ⟨m, hm⟩ := k0; exact DataW.trod_lt m _ _ _ hm
  have k1 := h1
  have lt1 : ∀ x ∈ p1, x.block < W.heap.size := by obtain ⟨m, hm⟩ := k1; exact DataW.trod_lt m _ _ _ hm
  have post : ∀ e W', e = Ending.returned (.bool true) → Below W.heap.size W W' → ∃ v, e = .returned v ∧ Rows.dirPlaysSpec.post enc Try.prog Try.f5 false true false false W #[v0, v1] v W' := by
    intro e W' he bel
    subst he
    exact ⟨_, rfl, _, _, _, [], _, [], hW', trodAll_mk1 (shut_bool Try.underlying4 _), (trodAll_cons_mk (Below.trod laidOut (by kernel_rfl) (of_decide_eq_true (by kernel_rfl)) k0 bel lt0) (trodAll_cons_mk (Below.trod laidOut (by kernel_rfl) (of_decide_eq_true (by kernel_rfl)) k1 bel lt1) trodAll_mk0)), rfl, bel.frame _, fun h => by cases h⟩
  clear hW' hcnd hfz hnd hA0 hA hval0
  obtain ⟨ho, hosts, hcap, rfl, hh0, hha⟩ := open_intsN (hval 0 43 v0 rfl rfl) h0
  obtain ⟨ao, cap, l, rfl, hm, hr⟩ := open_chs (okWide_slice Try.underlying22 (hval 1 22 v1 rfl rfl)) h1
  exact (plays_walk ho hcap hosts ao cap l W hh0 hha hr hm).mono fun e W' ⟨he, bel⟩ => post e W' he bel

theorem over : Rows.dirPlaysRow.holds Try.pinned (OpenSpec.ofChange Rows.dirPlaysSpec) :=
  OpenClaim.holds_of_wide 5 Try.f5 rfl rfl rfl rfl rfl rfl rfl ⟨rfl, rfl, rfl, rfl, rfl⟩ rfl rfl rfl rfl rfl (by kernel_rfl) Try.func5 (by kernel_rfl)
    (of_decide_eq_true (by kernel_rfl)) (by unfold Func.isWrapper; first | (rw [if_pos (by decide +kernel)]; kernel_rfl) | (rw [if_neg (by decide +kernel)]; exact ⟨rfl, rfl⟩))
    (fun os started H enc _ => lifted os started H enc)
end DirPlaysLift

/-- The statement. -/
theorem dirPlays_holds : Rows.DirPlaysSaid := DirPlaysLift.over
#print axioms dirPlays_holds
end Go.Proofs.Ytobnibdeimiinaa
