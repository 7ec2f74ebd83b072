/- Any bytes as a request, or refused: the statement OpDecodes, for all bytes. -/
import Derived.Test.YtglidhbkglfkeaaRDec
import Derived.Test.YtglidhbkglfkeaaOpenB
import Derived.Test.YtglidhbkglfkeaaRows
namespace Go.Proofs.Ytglidhbkglfkeaa
open Go.RowKit Go.Joins

def zRq : Rq := ⟨0, 0, 0, ⟨#[]⟩, ⟨#[]⟩, ⟨#[]⟩, ⟨#[]⟩, 0, 0, 0, false, 0⟩
def decR (l : List UInt8) : Rq := if goodD l = true then dqQ (decD l) else zRq
def decE (l : List UInt8) : Int := if goodD l = true then 0 else 3
theorem dec_res (c : Bool) (q : Rq) (e : Ending) (h : if c = true then e = .returned (.tuple #[.agg #[.int .i64 q.kind, .int .i64 q.client, .int .i64 q.seq, .string q.key, .string q.who, .string q.tkey, .string q.twho, .int .i64 q.item, .int .i64 q.count, .int .i64 q.price, .bool q.buy, .int .i64 q.id], .int .i64 0]) else e = .returned (.tuple #[.agg #[.int .i64 zRq.kind, .int .i64 zRq.client, .int .i64 zRq.seq, .string zRq.key, .string zRq.who, .string zRq.tkey, .string zRq.twho, .int .i64 zRq.item, .int .i64 zRq.count, .int .i64 zRq.price, .bool zRq.buy, .int .i64 zRq.id], .int .i64 3])) : e = .returned (.tuple #[.agg #[.int .i64 (if c = true then q else zRq).kind, .int .i64 (if c = true then q else zRq).client, .int .i64 (if c = true then q else zRq).seq, .string (if c = true then q else zRq).key, .string (if c = true then q else zRq).who, .string (if c = true then q else zRq).tkey, .string (if c = true then q else zRq).twho, .int .i64 (if c = true then q else zRq).item, .int .i64 (if c = true then q else zRq).count, .int .i64 (if c = true then q else zRq).price, .bool (if c = true then q else zRq).buy, .int .i64 (if c = true then q else zRq).id], .int .i64 (if c = true then 0 else 3)]) := by
  cases c
  · exact h
  · exact h
theorem DecPost.eq {w w' : World} {l : List UInt8} {e : Ending} (h : DecPost w l e w') : e = .returned (.tuple #[.agg #[.int .i64 (decR l).kind, .int .i64 (decR l).client, .int .i64 (decR l).seq, .string (decR l).key, .string (decR l).who, .string (decR l).tkey, .string (decR l).twho, .int .i64 (decR l).item, .int .i64 (decR l).count, .int .i64 (decR l).price, .bool (decR l).buy, .int .i64 (decR l).id], .int .i64 (decE l)]) ∧ Below w.heap.size w w' := by
  unfold decR decE
  unfold DecPost at h
  generalize goodD l = c at h ⊢
  generalize dqQ (decD l) = q at h ⊢
  exact ⟨dec_res c q e h.2, h.1⟩
theorem eqR_self (o : Rq) : eqR o o = true := by simp [eqR]
set_option maxRecDepth 40000 in
set_option maxHeartbeats 4000000 in
theorem decodes_any (ao : Option Addr) (cap : Nat) (l : List UInt8) (w : World) (hlc : l.length ≤ cap) (hcm : cap ≤ 9223372036854775807) (h0 : ao = none → l.length = 0 ∧ cap = 0) (ha : BAt w ao l) :
    Calls Try.prog 5 #[.slice ao l.length cap] w fun e w' => e = .returned (.bool true) ∧ Below w.heap.size w w' := by
  have Ha := Lib.hid ha
  have H0 := Lib.hid h0
  clear ha h0
  by_cases hbig : (2000 : Int) < l.length
  · go_enter Try.func5, Try.ntmps5
    go_wp2_with fail
    go_ret
    exact ⟨rfl, (by repeat (first | with_reducible exact Below.refl _ _ | with_reducible assumption | with_reducible refine Below.drew ?_ | with_reducible refine below_drawn ?_ | with_reducible refine Below.alloc ?_ (by first | omega | (simp; done) | (simp; omega) | (simp at *; omega)) _ | with_reducible refine Below.setCell ?_ (by first | omega | (simp; done) | (simp; omega) | (simp at *; omega)) _ | with_reducible refine Below.trans ?_ (Below.mono (by assumption) (by first | omega | (simp; done) | (simp; omega) | (simp at *; omega)))))⟩
  have hm : l.length ≤ 2000 := by omega
  obtain ⟨i0, hi, hz0, hz1, hz2⟩ := info_parts byteInfo
  have Hd := Lib.hid (fun ao cap w h0 ha => dec_any ao cap l w h0 ha hm)
  have Hr := Lib.hid (fun w h0 ha => rdec_any ao cap l w hlc hcm h0 ha hm)
  obtain ⟨q, hq⟩ : ∃ q, q = decR l := ⟨_, rfl⟩
  obtain ⟨E, hE⟩ : ∃ E, E = decE l := ⟨_, rfl⟩
  have hEE : (E == E) = true := by simp
  have heq := fun w => eql_api.Op q q w true (eqR_self q)
  have Hq := Lib.hid hq
  have HE := Lib.hid hE
  clear hq hE
  go_enter Try.func5, Try.ntmps5
  go_wp2_with (at_builtin; go_must (refine wpList_append_any _ rfl (.tmp 11) (.tmp 12) 27 rfl w.heap.size 5 i0 (.int .u8 0) 1 1 Try.underlying27 hi hz0 hz1 hz2 rfl (by decide) _ 0 [] rfl (owns_emptyAt _ w.heap.size rfl w.heap.size (Nat.le_refl _) 5 1) ao l.length cap (bytV l) rfl H0.out (by rw [bytV_length, Nat.mul_one]) (Ha.out.below ((Below.refl _ _).alloc (Nat.le_refl _) _)).cells (bytV_one l) (by unfold maxLen; omega) (by omega) (by simp) ?_))
  intro v w1 hown hgrow
  have hb : Below w.heap.size w w1 := below_grown ((Below.refl _ _).alloc (Nat.le_refl _) _) (by simp) hgrow (fun k hk => by simp [Value.ownBlock] at hk; omega)
  obtain ⟨bo, c1, hv, ho⟩ := owned_bytes (l := l) (by simpa using hown) (Nat.zero_add _)
  have Ho := Lib.hid ho
  have w1_b := hb
  clear hown hgrow ho hb
  subst hv
  go_wp2_with fail
  refine (Hd.out bo c1 _ Ho.out.none Ho.out.at).mono ?_
  intro e w2 h2
  obtain ⟨rfl, hb2⟩ := h2.eq
  rw [← Hq.out, ← HE.out]
  have w2_b : Below w.heap.size w w2 := w1_b.trans (hb2.mono w1_b.size)
  have w2_s := w2_b.size
  clear hb2 h2 w1_b
  go_wp2_with fail
  refine (Hr.out _ H0.out (Ha.out.below (w2_b.alloc w2_s _))).mono ?_
  intro e w3 h3
  obtain ⟨rfl, hb3⟩ := h3.eq
  rw [← Hq.out, ← HE.out]
  have w2_c := w2_b.alloc w2_s (.cells #[.int .i64 q.kind, .int .i64 q.client, .int .i64 q.seq, .string q.key, .string q.who, .string q.tkey, .string q.twho, .int .i64 q.item, .int .i64 q.count, .int .i64 q.price, .bool q.buy, .int .i64 q.id] 25)
  have w3_b : Below w.heap.size w w3 := w2_c.trans (hb3.mono w2_c.size)
  have w3_s := w3_b.size
  obtain ⟨h3c, h3f⟩ := bcell hb3
  have y3 : w2.heap.size < w3.heap.size := by have := hb3.size; simp only [World.alloc, Array.size_push] at this; omega
  clear hb3 h3 w2_b w2_c
  go_wp2_with fail
  have w3_c := w3_b.alloc w3_s (.cells #[.int .i64 q.kind, .int .i64 q.client, .int .i64 q.seq, .string q.key, .string q.who, .string q.tkey, .string q.twho, .int .i64 q.item, .int .i64 q.count, .int .i64 q.price, .bool q.buy, .int .i64 q.id] 25)
  refine (known_any _).mono ?_
  rintro e w4 ⟨rfl, hb4⟩
  have w4_b : Below w.heap.size w w4 := w3_c.trans (hb4.mono w3_c.size)
  clear hb4
  go_wp2_with fail
  go_ret
  exact ⟨rfl, w4_b⟩
namespace OpDecodesLift
open Go.ChangeShapes Go.WideShapes Go.ChangeAt Go.RowKit Go.Joins Go.Deep
open Go.ChangeMaps (open_string shut_string)

theorem own : ownKnob Try.prog.godebug = none := by kernel_rfl
theorem laidOut : laidOutB Try.prog = true := by kernel_rfl

set_option maxHeartbeats 1000000 in
set_option maxRecDepth 100000 in
theorem lifted (os : Os) (started : os.Started) (H : Type) (enc : TypeId × Value → H) :
    ReturnsInHanded {} Try.checked os 5 .any (Rows.opDecodesSpec.pre6 enc Try.prog Try.f5 Rows.opDecodesRow.domain false) (Rows.opDecodesSpec.post enc Try.prog Try.f5 false true false false) := by
  refine returnsInHanded_of_change (C := Try.checked) own started (by kernel_rfl) Try.func5
    (ChangeSpec.witness6 (enc := enc) (C := Try.checked) false ⟨#[], #[.slice none 0 0], []⟩ 8 (by kernel_rfl) (by kernel_rfl) (by kernel_rfl) (by kernel_rfl)) ?_
  intro W base args ds gs before hval0 hW hcnd _
  have hval : ∀ (j : Nat) t v, Try.f5.params[j]? = some t → args[j]? = some v → Value.okWide Try.prog W .any base t v := hval0
  have hW' := hW
  obtain ⟨p, q, hA0, hV, rfl, hfz, hnd⟩ := hW
  have hA : DataW.TrodAll enc Try.prog W 0 (fun _ => true) true Try.f5.params.toList args.toList ds p := hA0
  rw [Try.params5] at hA hval
  obtain ⟨v0, vs0, d0, ds0, p0, q0, hargs, rfl, rfl, h0, r0⟩ := trodAll_cons hA
  obtain ⟨rfl, rfl, rfl⟩ := trodAll_nil r0
  obtain rfl : args = #[v0] := by cases args; simp_all
  obtain ⟨rfl, rfl⟩ := trodVars_none hV
  have k0 := h0
  have lt0 : ∀ x ∈ p0, x.block < W.heap.size := by obtain ⟨m, hm⟩ := k0; exact DataW.trod_lt m _ _ _ hm
  have post : ∀ e W', e = Ending.returned (.bool true) → Below W.heap.size W W' → ∃ v, e = .returned v ∧ Rows.opDecodesSpec.post enc Try.prog Try.f5 false true false false W #[v0] v W' := by
    intro e W' he bel
    subst he
    exact ⟨_, rfl, _, _, _, [], _, [], hW', trodAll_mk1 (shut_bool Try.underlying4 _), (trodAll_cons_mk (Below.trod laidOut (by kernel_rfl) (of_decide_eq_true (by kernel_rfl)) k0 bel lt0) trodAll_mk0), rfl, bel.frame _, fun h => by cases h⟩
  clear hW' hcnd hfz hnd hA0 hA hval0
  obtain ⟨ao, l, cap, rfl, hlc, hcm, h0', ha⟩ := open_bytes (hval 0 27 v0 rfl rfl) h0
  exact (decodes_any ao cap l W hlc (by unfold maxLen at hcm; exact hcm) h0' ha).mono fun e W' ⟨he, bel⟩ => post e W' he bel

theorem over : Rows.opDecodesRow.holds Try.pinned (OpenSpec.ofChange Rows.opDecodesSpec) :=
  OpenClaim.holds_of_wide 5 Try.f5 rfl rfl rfl rfl rfl rfl rfl ⟨rfl, rfl, rfl, rfl, rfl⟩ rfl rfl rfl rfl rfl (by kernel_rfl) Try.func5 (by kernel_rfl)
    (of_decide_eq_true (by kernel_rfl)) (by unfold Func.isWrapper; first | (rw [if_pos (by decide +kernel)]; kernel_rfl) | (rw [if_neg (by decide +kernel)]; exact ⟨rfl, rfl⟩))
    (fun os started H enc _ => lifted os started H enc)
end OpDecodesLift

/-- The statement. -/
theorem opDecodes_holds : Rows.OpDecodesSaid := OpDecodesLift.over
#print axioms opDecodes_holds
end Go.Proofs.Ytglidhbkglfkeaa
