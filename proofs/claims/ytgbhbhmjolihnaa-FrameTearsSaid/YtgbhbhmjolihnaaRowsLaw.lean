/- The law FrameRows: rows that are written one behind the other are read as they were, whatever stands behind them. -/
import Derived.Test.YtgbhbhmjolihnaaFrHelp
import Derived.Test.YtgbhbhmjolihnaaFrRows
import Derived.Test.YtgbhbhmjolihnaaRows
import Derived.Test.YtgbhbhmjolihnaaOpenR
namespace Go.Proofs.Ytgbhbhmjolihnaa
open Go.RowKit Go.Joins

def bsOf (L : List RowR) : List (List UInt8) := L.map (·.bs)
theorem bsOf_length (L : List RowR) : (bsOf L).length = L.length := by simp [bsOf]
theorem framesB_step (L : List RowR) (k : Nat) (h : k < L.length) : framesB (bsOf (L.take (k + 1))) = framesB (bsOf (L.take k)) ++ frameB L[k].bs := by
  have := framesB_next (bsOf L) k (by rw [bsOf_length]; exact h)
  simpa [bsOf, List.map_take] using this
theorem le_take {L : List RowR} {k : Nat} (h : k < L.length) (ht : ∀ p ∈ bsOf (L.take k), p.length ≤ 1048576) (hk : L[k].bs.length ≤ 4000) : ∀ p ∈ bsOf (L.take (k + 1)), p.length ≤ 1048576 := by
  intro p hp
  rw [bsOf, List.take_succ_eq_append_getElem h, List.map_append] at hp
  rcases List.mem_append.1 hp with hp | hp
  · exact ht p hp
  · simp at hp; subst hp; omega
set_option maxRecDepth 40000 in
set_option maxHeartbeats 8000000 in
theorem frows_walk (ao bo : Option Addr) (ca cb : Nat) (L : List RowR) (more : List UInt8) (w0 : World) (hr : RsAt w0 (fun x => x < w0.heap.size) ao L) (hLm : L.length ≤ 140737488355328) (hq : Sl w0 bo cb more) (hqm : more.length ≤ 140737488351232) :
    Calls Try.prog 6 #[.slice ao L.length ca, .slice bo more.length cb] w0 fun e w' => e = .returned (.bool true) ∧ Below w0.heap.size w0 w' := by
  obtain ⟨i0, hi, hz0, hz1, hz2⟩ := info_parts byteInfo
  have Hr := Lib.hid hr
  have Hq := Lib.hid hq
  clear hr hq
  go_enter Try.func6, Try.ntmps6
  go_wp2_with fail
  go_loopw [5, 6] (fun s5 s6 wr => ∃ (k : Nat) (po : Option Addr) (pc n : Nat), s6 = .int .i64 k ∧ s5 = .slice po n pc ∧ k ≤ L.length ∧ n ≤ 4000 ∧ Hid (n = (framesB (bsOf (L.take k))).length) ∧ Hid (∀ p ∈ bsOf (L.take k), p.length ≤ 1048576) ∧ Hid (OwnB wr w0.heap.size po pc (framesB (bsOf (L.take k)))) ∧ Hid (Below w0.heap.size w0 wr)) (fun _ s6 _ => L.length - (intOf s6).toNat)
  case atStart => exact ⟨0, none, 0, 0, rfl, rfl, by omega, by omega, rfl, (by intro p hp; simp [bsOf] at hp), own_none _ _, Below.refl _ _⟩
  case round =>
    obtain ⟨k, po, pc, n, rfl, rfl, hk, hn4, Hn, Hle, HO, HB⟩ := hrel
    have hs := HB.out.size
    by_cases hlt : k < L.length
    · obtain ⟨b, off, rfl, hb, -, hrow⟩ := Hr.out (by omega)
      obtain ⟨ro, rc, rb, hrr⟩ : ∃ ro rc rb, (⟨ro, rc, rb⟩ : RowR) = L[k] := ⟨_, _, _, rfl⟩
      have hra := hrow k hlt
      rw [← hrr] at hra
      have c0 := (HB.out.cell (p := ⟨b, off + k, none⟩) hb).trans hra.c
      simp only at c0
      have hf := framesB_step L k hlt
      have hle : rb.length ≤ 4000 → ∀ p ∈ bsOf (L.take (k + 1)), p.length ≤ 1048576 := fun h => le_take hlt Hle.out (by rw [← hrr]; exact h)
      rw [← hrr] at hf
      have Hf := Lib.hid hf
      have Hle1 := Lib.hid hle
      have HR := Lib.hid (⟨hra.le, hra.cm, hra.n0, hra.at_.at.below HB.out⟩ : Sl wr ro rc rb)
      clear hf hle hrr hra hrow
      by_cases h1 : (4000 : Int) < rb.length
      · go_wp2_with fail
        go_ret
        exact ⟨rfl, HB.out⟩
      have hs1 := rs_one HR.out 22 wr.heap.size rfl
      have henc := encode_any (some ⟨wr.heap.size, 0, none⟩) 1 [⟨ro, rc, rb⟩] _ _ hs1 (by simp) (by simp) (by rw [flat_one1]; omega)
      rw [flat_one1] at henc
      unfold EncPost at henc
      have hfl : (frameB rb).length = rb.length + 12 := frameB_length rb
      obtain ⟨f, hf⟩ : ∃ f, f = frameB rb := ⟨_, rfl⟩
      obtain ⟨m, hm⟩ : ∃ m, m = f.length := ⟨_, rfl⟩
      rw [← hf, ← hm] at henc hfl
      have Hff := Lib.hid hf
      have Hm := Lib.hid hm
      have Henc := Lib.hid henc
      have hm1 : m ≤ 4012 := by omega
      clear hs1 henc hf hm hfl
      go_wp2_with fail
      refine Henc.out.mono ?_
      rintro e w1 ⟨xo, xc, rfl, ho, hb1⟩
      have hb1' : Below wr.heap.size wr w1 := (below_allocF wr _).trans (hb1.mono (by simp))
      have HX := Lib.hid ho.sl
      have HB1 := Lib.hid (HB.out.trans (hb1'.mono hs))
      have hown : OwnB w1 w0.heap.size po pc (framesB (bsOf (L.take k))) := own_grow HO.out hb1'
      unfold OwnB at hown
      rw [← Hn.out] at hown
      have Hown := Lib.hid hown
      have s1 := HB1.out.size
      clear ho hb1 hb1' hown Henc
      simp only
      go_wp2_with (at_builtin; go_must (refine wpList_append_foot _ rfl (.tmp 36) (.tmp 37) 22 rfl w0.heap.size 5 i0 (.int .u8 0) 1 1 Try.underlying22 hi hz0 hz1 hz2 rfl (by decide) po n pc (bytV (framesB (bsOf (L.take k)))) rfl Hown.out xo m xc (bytV f) rfl (fun h => by have := HX.out.n0 h; have := Hm.out; omega) (by rw [bytV_length, ← Hm.out, Nat.mul_one]) (BAt.cells HX.out.at_) (bytV_one _) (by unfold maxLen; omega) (by omega) s1 ?_))
      intro co c' w2 hown hgrow hco
      have hb2 : Below w0.heap.size w0 w2 := below_grown HB1.out s1 hgrow (fun k hk => own_block Hown.out hk)
      have hl1 : n + m = (framesB (bsOf (L.take (k + 1)))).length := by rw [Hf.out, List.length_append, ← Hn.out, Hm.out, Hff.out]
      have ho1 : OwnB w2 w0.heap.size co c' (framesB (bsOf (L.take (k + 1)))) := by unfold OwnB; rw [← hl1, Hf.out, ← bytV_append, ← Hff.out]; exact hown
      have HO1 := Lib.hid ho1
      have HB2 := Lib.hid hb2
      have Hl1 := Lib.hid hl1
      clear hown hgrow hco hb2 hl1 ho1
      by_cases h2 : (4000 : Int) < (n : Int) + m
      · go_wp2_with fail
        go_ret
        exact ⟨rfl, HB2.out⟩
      go_wp2_with fail
      go_roundw
      case rel => exact ⟨k + 1, co, c', n + m, by go_num, rfl, by omega, by omega, Hl1, Hle1.out (by omega), HO1, HB2⟩
      case measure => simp [intOf]; omega
    · have hkL : L.take k = L := List.take_of_length_le (by omega)
      rw [hkL] at Hn HO Hle
      clear hkL
      obtain ⟨all, hall⟩ : ∃ all, all = framesB (bsOf L) := ⟨_, rfl⟩
      have hscan := scan_all (bsOf L) Hle.out
      have hscan2 := scan_frames more (bsOf L) Hle.out
      rw [← hall] at Hn HO hscan hscan2
      obtain ⟨R, k2, hrest⟩ : ∃ R k2, scanB more = (R, k2) := ⟨_, _, rfl⟩
      rw [hrest] at hscan2
      simp only at hscan2
      rw [← Hn.out] at hscan hscan2
      have Hscan := Lib.hid hscan
      have Hscan2 := Lib.hid hscan2
      clear hall hscan hscan2 hrest
      by_cases h4 : (4000 : Int) < more.length
      · go_wp2_with fail
        go_ret
        exact ⟨rfl, HB.out⟩
      have hc1 := scanframe_any po pc all wr HO.out.sl (by rw [← Hn.out]; omega)
      rw [Hscan.out, ← Hn.out] at hc1
      have Hc1 := Lib.hid hc1
      clear hc1 Hscan
      go_wp2_with fail
      refine Hc1.out.mono ?_
      rintro e w1 ⟨lo, lc, A, rfl, hA, heA, hb⟩
      have HB1 := Lib.hid (HB.out.trans (hb.mono hs))
      have HA := Lib.hid (own_rows_at hA)
      have HeA := Lib.hid (show bsOf A = bsOf L from heA)
      have hAl : A.length = L.length := by have := congrArg List.length heA; simpa [bsOf] using this
      have HO1 := Lib.hid (own_grow HO.out hb)
      have s1 := HB1.out.size
      have HAl := Lib.hid hAl
      clear hA heA hb hAl HB HO Hc1
      simp only
      have hrows := rows_yes lo ao lc ca A L _ _ w1 HA.out (Hr.out.below HB1.out) HeA.out (by rw [HAl.out]; omega)
      have Hrows := Lib.hid hrows
      clear hrows
      go_wp2_with fail
      refine Hrows.out.mono ?_
      rintro e w2 ⟨rfl, hb⟩
      have HB2 := Lib.hid (HB1.out.trans (hb.mono s1))
      have HO2 := Lib.hid (own_grow HO1.out hb)
      have s2 := HB2.out.size
      clear hb HB1 HO1 Hrows HA HeA HAl
      go_wp2_with (at_builtin; go_must (refine wpList_append_any _ rfl (.tmp 61) (.tmp 62) 22 rfl w2.heap.size 5 i0 (.int .u8 0) 1 1 Try.underlying22 hi hz0 hz1 hz2 rfl (by decide) _ 0 [] rfl (owns_emptyAt _ w2.heap.size rfl w2.heap.size (Nat.le_refl _) 5 1) po n pc (bytV all) rfl (fun h => by have := HO2.out.none h; have := Hn.out; omega) (by rw [bytV_length, ← Hn.out, Nat.mul_one]) (BAt.cells (HO2.out.at.below (below_allocF _ _))) (bytV_one _) (by unfold maxLen; omega) (by omega) (by simp) ?_))
      intro v w3 hown hgrow
      have hb3 : Below w2.heap.size w2 w3 := below_grown (below_allocF _ _) (by simp) hgrow (fun k hk => by simp [Value.ownBlock] at hk; omega)
      obtain ⟨co, c3, hv, ho3⟩ := owned_bytes (l := all) (by simpa using hown) (by rw [Hn.out])
      rw [← Hn.out] at hv
      have HO3 : Hid (w3.ownsRow w2.heap.size 5 1 (.slice co n c3) n (bytV all)) := by have := ho3; unfold OwnB at this; rwa [← Hn.out] at this
      have HB23 := Lib.hid hb3
      have s3 := hb3.size
      have HB3 := Lib.hid (HB2.out.trans (hb3.mono s2))
      rw [hv]
      clear hown hgrow hv ho3 hb3
      go_wp2_with (at_builtin; go_must (refine wpList_append_foot _ rfl (.tmp 63) (.tmp 64) 22 rfl w2.heap.size 5 i0 (.int .u8 0) 1 1 Try.underlying22 hi hz0 hz1 hz2 rfl (by decide) co n c3 (bytV all) rfl HO3.out bo more.length cb (bytV more) rfl Hq.out.n0 (by rw [bytV_length, Nat.mul_one]) (BAt.cells (Hq.out.at_.below HB3.out)) (bytV_one _) (by unfold maxLen; omega) (by omega) s3 ?_))
      intro eo c4 w4 hown hgrow hco
      have hb4 : Below w2.heap.size w2 w4 := below_grown HB23.out s3 hgrow (fun k hk => own_block HO3.out hk)
      have hl4 : (all ++ more).length = n + more.length := by rw [List.length_append, ← Hn.out]
      have ho4 : OwnB w4 w2.heap.size eo c4 (all ++ more) := by unfold OwnB; rw [hl4, ← bytV_append]; exact hown
      have hc := scanframe_any eo c4 (all ++ more) w4 ho4.sl (by omega)
      rw [Hscan2.out, hl4] at hc
      have Hc := Lib.hid hc
      have HB4 := Lib.hid (HB2.out.trans (hb4.mono s2))
      have s4 := HB4.out.size
      clear hown hgrow hco hb4 hl4 ho4 hc HO3 HB23 HB3 HB2 HO2 Hscan2
      go_wp2_with fail
      refine Hc.out.mono ?_
      rintro e w5 ⟨mo, mc, M, rfl, hM, heM, hb⟩
      have HB5 := Lib.hid (HB4.out.trans (hb.mono s4))
      have HM := Lib.hid ((own_rows_at hM).take L.length)
      have hml := congrArg List.length heM
      simp only [List.length_map, List.length_append, bsOf_length] at hml
      have hMc := hM.le
      have hMn := hM.none
      have hl : (M.take L.length).length = L.length := by rw [List.length_take]; omega
      have heq : bsOf (M.take L.length) = bsOf L := by
        have : bsOf (M.take L.length) = (M.map (·.bs)).take L.length := by simp [bsOf, List.map_take]
        rw [this, heM]
        exact List.take_left' (bsOf_length L)
      have hrows := rows_yes mo ao mc ca (M.take L.length) L _ _ w5 HM.out (Hr.out.below HB5.out) heq (by omega)
      rw [hl] at hrows
      have Hrows := Lib.hid hrows
      have s5 := HB5.out.size
      have hle1 : L.length ≤ M.length := by omega
      have hle2 : (L.length : Int) ≤ M.length := by omega
      have hle3 : L.length ≤ mc := by omega
      have hle4 : (L.length : Int) ≤ mc := by omega
      have hle5 : (n : Int) ≤ ((n + k2 : Nat) : Int) := by omega
      have hle6 : (n : Int) ≤ (n : Int) + k2 := by omega
      have HMn := Lib.hid hMn
      clear hM heM hb hml hl heq hrows HM hMn Hc HB4
      simp only
      go_wp2_with fail
      refine Hrows.out.mono ?_
      rintro e w6 ⟨rfl, hb⟩
      have HB6 := Lib.hid (HB5.out.trans (hb.mono s5))
      have s6 := HB6.out.size
      clear hb HB5 Hrows
      go_wp2_with fail
      refine (known_any _).mono ?_
      rintro e w7 ⟨rfl, hb⟩
      have HB7 := Lib.hid (HB6.out.trans (hb.mono s6))
      clear hb
      go_wp2_with fail
      go_ret
      exact ⟨rfl, HB7.out⟩
namespace FrameRowsLift
open Go.ChangeShapes Go.WideShapes Go.ChangeAt Go.RowKit Go.Joins Go.Deep
open Go.ChangeMaps (open_string shut_string)

theorem own : ownKnob Try.prog.godebug = none := by kernel_rfl
theorem laidOut : laidOutB Try.prog = true := by kernel_rfl

set_option maxHeartbeats 1000000 in
set_option maxRecDepth 100000 in
theorem lifted (os : Os) (started : os.Started) (H : Type) (enc : TypeId × Value → H) :
    ReturnsInHanded {} Try.checked os 6 .any (Rows.frameRowsSpec.pre6 enc Try.prog Try.f6 Rows.frameRowsRow.domain false) (Rows.frameRowsSpec.post enc Try.prog Try.f6 false true false false) := by
  refine returnsInHanded_of_change_sized (C := Try.checked) own started (by kernel_rfl) Try.func6
    (ChangeSpec.witness6 (enc := enc) (C := Try.checked) false ⟨#[], #[.slice none 0 0, .slice none 0 0], []⟩ 8 (by kernel_rfl) (by kernel_rfl) (by kernel_rfl) (by kernel_rfl)) ?_
  intro W base args ds gs before hval0 hW hcnd hsz0 _
  have hval : ∀ (j : Nat) t v, Try.f6.params[j]? = some t → args[j]? = some v → Value.okWide Try.prog W .any base t v := hval0
  have hW' := hW
  obtain ⟨p, q, hA0, hV, rfl, hfz, hnd⟩ := hW
  have hA : DataW.TrodAll enc Try.prog W 0 (fun _ => true) true Try.f6.params.toList args.toList ds p := hA0
  have hsz : (DataW.weightsEach Try.prog (Try.f6.params.toList ++ Rows.frameRowsSpec.plain.varTypes Try.prog) (ds ++ gs)).all (· ≤ reachBytes) = true := hsz0
  rw [Try.params6] at hA hval hsz
  obtain ⟨v0, vs0, d0, ds0, p0, q0, hargs, rfl, rfl, h0, r0⟩ := trodAll_cons hA
  obtain ⟨v1, vs1, d1, ds1, p1, q1, rfl, rfl, rfl, h1, r1⟩ := trodAll_cons r0
  obtain ⟨rfl, rfl, rfl⟩ := trodAll_nil r1
  obtain rfl : args = #[v0, v1] := by cases args; simp_all
  obtain ⟨rfl, rfl⟩ := trodVars_none hV
  have k0 := h0
  have lt0 : ∀ x ∈ p0, x.block < W.heap.size := by obtain ⟨m, hm⟩ := k0; exact DataW.trod_lt m _ _ _ hm
  have k1 := h1
  have lt1 : ∀ x ∈ p1, x.block < W.heap.size := by obtain ⟨m, hm⟩ := k1; exact DataW.trod_lt m _ _ _ hm
  have post : ∀ e W', e = Ending.returned (.bool true) → Below W.heap.size W W' → ∃ v, e = .returned v ∧ Rows.frameRowsSpec.post enc Try.prog Try.f6 false true false false W #[v0, v1] v W' := by
    intro e W' he bel
    subst he
    exact ⟨_, rfl, _, _, _, [], _, [], hW', trodAll_mk1 (shut_bool Try.underlying4 _), (trodAll_cons_mk (Below.trod laidOut (by kernel_rfl) (of_decide_eq_true (by kernel_rfl)) k0 bel lt0) (trodAll_cons_mk (Below.trod laidOut (by kernel_rfl) (of_decide_eq_true (by kernel_rfl)) k1 bel lt1) trodAll_mk0)), rfl, bel.frame _, fun h => by cases h⟩
  clear hW' hcnd hfz hnd hA0 hA hval0
  have hb1 : Try.prog.bytesOf 5 = 1 := by kernel_rfl
  have hb24 : Try.prog.bytesOf 22 = 24 := by kernel_rfl
  obtain ⟨ao, L, ca, rfl, hLc, hcm, hn0, hr⟩ := open_rows (hval 0 30 v0 rfl rfl) h0
  obtain ⟨bo, q, cb, rfl, hqc, hqm, hqn, hqa⟩ := open_bytes (hval 1 22 v1 rfl rfl) h1
  have ra := slice_reach hsz (j := 0) rfl rfl Try.underlying30 k0
  have rb := slice_reach hsz (j := 1) rfl rfl Try.underlying22 k1
  rw [hb24] at ra
  rw [hb1, Nat.mul_one] at rb
  unfold maxLen at hqm
  exact (frows_walk ao bo ca cb L q W hr (by omega) ⟨hqc, by omega, hqn, hqa⟩ rb).mono fun e W' ⟨he, bel⟩ => post e W' he bel

theorem over : Rows.frameRowsRow.holds Try.pinned (OpenSpec.ofChange Rows.frameRowsSpec) :=
  OpenClaim.holds_of_wide 6 Try.f6 rfl rfl rfl rfl rfl rfl rfl ⟨rfl, rfl, rfl, rfl, rfl⟩ rfl rfl rfl rfl rfl (by kernel_rfl) Try.func6 (by kernel_rfl)
    (of_decide_eq_true (by kernel_rfl)) (by unfold Func.isWrapper; first | (rw [if_pos (by decide +kernel)]; kernel_rfl) | (rw [if_neg (by decide +kernel)]; exact ⟨rfl, rfl⟩))
    (fun os started H enc _ => lifted os started H enc)
end FrameRowsLift

/-- The statement. -/
theorem frameRows_holds : Rows.FrameRowsSaid := FrameRowsLift.over
#print axioms frameRows_holds
end Go.Proofs.Ytgbhbhmjolihnaa
