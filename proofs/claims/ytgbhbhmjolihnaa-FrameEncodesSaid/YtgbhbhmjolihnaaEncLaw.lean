/- The law FrameEncodes: any rows as one record, and back, whatever stands behind. -/
import Derived.Test.YtgbhbhmjolihnaaFrRefEnc
import Derived.Test.YtgbhbhmjolihnaaRows
import Derived.Test.YtgbhbhmjolihnaaOpenR
namespace Go.Proofs.Ytgbhbhmjolihnaa
open Go.RowKit Go.Joins

theorem one_frame (p : List UInt8) (hp : p.length ≤ 1048576) : oneB (frameB p) = (p, 0) := by
  have h := dec_frame p [] hp
  rw [List.append_nil] at h
  unfold oneB
  rw [h, if_neg (by rw [frameB_length]; simp)]
theorem one_more (p : List UInt8) (hp : p.length ≤ 1048576) : oneB (frameB p ++ [1]) = ([], 3) := by
  unfold oneB
  rw [dec_frame p [1] hp, if_pos ⟨rfl, by rw [List.length_append, frameB_length]; simp⟩]
set_option maxRecDepth 40000 in
set_option maxHeartbeats 8000000 in
theorem enc_walk (ao bo : Option Addr) (ca cb : Nat) (L : List RowR) (more : List UInt8) (w0 : World) (hr : RsAt w0 (fun x => x < w0.heap.size) ao L) (hLc : L.length ≤ ca) (hLm : L.length ≤ 140737488355328) (hq : Sl w0 bo cb more) (hqm : more.length ≤ 140737488351232) :
    Calls Try.prog 4 #[.slice ao L.length ca, .slice bo more.length cb] w0 fun e w' => e = .returned (.bool true) ∧ Below w0.heap.size w0 w' := by
  obtain ⟨i0, hi, hz0, hz1, hz2⟩ := info_parts byteInfo
  have Hr := Lib.hid hr
  have Hq := Lib.hid hq
  clear hr hq
  go_enter Try.func4, Try.ntmps4
  go_wp2_with fail
  go_loopw [5, 6] (fun s5 s6 wr => ∃ (k : Nat) (po : Option Addr) (pc n : Nat), s6 = .int .i64 k ∧ s5 = .slice po n pc ∧ k ≤ L.length ∧ n ≤ 8000 ∧ Hid (n = (flatR (L.take k)).length) ∧ Hid (OwnB wr w0.heap.size po pc (flatR (L.take k))) ∧ Hid (Below w0.heap.size w0 wr)) (fun _ s6 _ => L.length - (intOf s6).toNat)
  case atStart => exact ⟨0, none, 0, 0, rfl, rfl, by omega, by omega, rfl, own_none _ _, Below.refl _ _⟩
  case round =>
    obtain ⟨k, po, pc, n, rfl, rfl, hk, hn8, Hn, HO, HB⟩ := hrel
    have hs := HB.out.size
    by_cases hlt : k < L.length
    · obtain ⟨b, off, rfl, hb, -, hrow⟩ := Hr.out (by omega)
      obtain ⟨ro, rc, rb, hrr⟩ : ∃ ro rc rb, (⟨ro, rc, rb⟩ : RowR) = L[k] := ⟨_, _, _, rfl⟩
      have hra := hrow k hlt
      rw [← hrr] at hra
      have c0 := (HB.out.cell (p := ⟨b, off + k, none⟩) hb).trans hra.c
      simp only at c0
      have hf := flatR_take_next L k hlt
      rw [← hrr] at hf
      have Hf := Lib.hid hf
      have Hat := Lib.hid (show BAt wr ro rb from hra.at_.at.below HB.out)
      have Hn0 := Lib.hid hra.n0
      clear hf hrr hra hrow
      by_cases h1 : (4000 : Int) < rb.length
      · go_wp2_with fail
        go_ret
        exact ⟨rfl, HB.out⟩
      by_cases h2 : (4000 : Int) < n
      · go_wp2_with fail
        go_ret
        exact ⟨rfl, HB.out⟩
      have hown : wr.ownsRow w0.heap.size 5 1 (.slice po n pc) n (bytV (flatR (L.take k))) := by have := HO.out; unfold OwnB at this; rwa [← Hn.out] at this
      have Hown := Lib.hid hown
      have HAT := Hat.out
      have HATh := Lib.hid HAT
      clear hown HAT
      go_wp2_with (at_builtin; go_must (refine wpList_append_foot _ rfl (.tmp 35) (.tmp 39) 22 rfl w0.heap.size 5 i0 (.int .u8 0) 1 1 Try.underlying22 hi hz0 hz1 hz2 rfl (by decide) po n pc (bytV (flatR (L.take k))) rfl Hown.out ro rb.length rc (bytV rb) rfl Hn0.out (by rw [bytV_length, Nat.mul_one]) (BAt.cells HATh.out) (bytV_one _) (by unfold maxLen; omega) (by omega) hs ?_))
      intro co c' w1 hown hgrow hco
      have hb1 : Below w0.heap.size w0 w1 := below_grown HB.out hs hgrow (fun k hk => own_block Hown.out hk)
      have hl1 : n + rb.length = (flatR (L.take (k + 1))).length := by rw [Hf.out, List.length_append, ← Hn.out]
      have ho1 : OwnB w1 w0.heap.size co c' (flatR (L.take (k + 1))) := by unfold OwnB; rw [← hl1, Hf.out, ← bytV_append]; exact hown
      have HO1 := Lib.hid ho1
      have HB1 := Lib.hid hb1
      have Hl1 := Lib.hid hl1
      clear hown hgrow hco hb1 hl1 ho1
      go_wp2_with fail
      go_roundw
      case rel => exact ⟨k + 1, co, c', n + rb.length, by go_num, rfl, by omega, by omega, Hl1, HO1, HB1⟩
      case measure => simp [intOf]; omega
    · have hkL : L.take k = L := List.take_of_length_le (by omega)
      rw [hkL] at Hn HO
      clear hkL
      obtain ⟨p, hp⟩ : ∃ p, p = flatR L := ⟨_, rfl⟩
      rw [← hp] at Hn HO
      by_cases h4 : (4000 : Int) < (n : Int) + more.length
      · go_wp2_with fail
        go_ret
        exact ⟨rfl, HB.out⟩
      have hD := Hr.out.grow HB.out
      have henc := encode_any ao ca L _ wr (Hr.out.below HB.out) hLc hLm (by rw [← hp, ← Hn.out]; omega)
      rw [← hp] at henc
      have Henc := Lib.hid henc
      have hpn : p.length = n := Hn.out.symm
      have HP := Lib.hid HO.out.sl
      have Hpn := Lib.hid hpn
      have hfl := frameB_length p
      rw [hpn] at hfl
      have hdec := dec_frame p more (by rw [hpn]; omega)
      have hone1 := one_frame p (by rw [hpn]; omega)
      have hone2 := one_more p (by rw [hpn]; omega)
      obtain ⟨f, hf⟩ : ∃ f, f = frameB p := ⟨_, rfl⟩
      have hrenc := fun w h => refEncode_any po pc p w h (by rw [hpn]; omega)
      unfold EncPost at Henc
      unfold REncPost at hrenc
      rw [← hf] at hfl hdec hone1 hone2 Henc hrenc
      rw [hpn] at hrenc
      have Hrenc := Lib.hid hrenc
      have Hdec := Lib.hid hdec
      have Hone1 := Lib.hid hone1
      have Hone2 := Lib.hid hone2
      obtain ⟨m, hm⟩ : ∃ m, m = f.length := ⟨_, rfl⟩
      rw [← hm] at hfl Hrenc Henc
      have Hm := Lib.hid hm
      have hm1 : m ≤ 4012 := by omega
      have hm0 : 0 < m := by omega
      have Hfl := Lib.hid hfl
      clear hD henc hrenc hdec hone1 hone2 hf hp hpn hm hfl Hr HO Hn
      go_wp2_with fail
      refine Henc.out.mono ?_
      rintro e w1 ⟨xo, xc, rfl, ho, hb⟩
      have HX := Lib.hid ho.sl
      have HB1 := Lib.hid (HB.out.trans (hb.mono hs))
      have HP1 := Lib.hid (HP.out.grow hb)
      have s1 := HB1.out.size
      clear ho hb HB HP Henc
      simp only
      go_wp2_with fail
      refine (Hrenc.out _ HP1.out).mono ?_
      rintro e w2 ⟨yo, yc, rfl, ho, hb⟩
      have HY := Lib.hid ho.sl
      have HX2 := Lib.hid (HX.out.grow hb)
      have HP2 := Lib.hid (HP1.out.grow hb)
      have HB2 := Lib.hid (HB1.out.trans (hb.mono s1))
      have s2 := HB2.out.size
      clear ho hb HB1 HP1 HX Hrenc
      simp only
      go_wp2_with fail
      have hsame := same_yes xo yo xc yc f _ HX2.out.at_ HY.out.at_ (by rw [← Hm.out]; omega)
      rw [← Hm.out] at hsame
      refine hsame.mono ?_
      rintro e w3 ⟨rfl, hb⟩
      have HX3 := Lib.hid (HX2.out.grow hb)
      have HP3 := Lib.hid (HP2.out.grow hb)
      have HB3 := Lib.hid (HB2.out.trans (hb.mono s2))
      have s3 := HB3.out.size
      clear hb hsame HX2 HP2 HB2 HY
      -- append([]byte{}, b...), then what stands behind
      go_wp2_with (at_builtin; go_must (refine wpList_append_any _ rfl (.tmp 67) (.tmp 68) 22 rfl w3.heap.size 5 i0 (.int .u8 0) 1 1 Try.underlying22 hi hz0 hz1 hz2 rfl (by decide) _ 0 [] rfl (owns_emptyAt _ w3.heap.size rfl w3.heap.size (Nat.le_refl _) 5 1) xo m xc (bytV f) rfl (fun h => by have := HX3.out.n0 h; have := Hm.out; omega) (by rw [bytV_length, ← Hm.out, Nat.mul_one]) (BAt.cells (HX3.out.at_.below (below_allocF _ _))) (bytV_one _) (by unfold maxLen; omega) (by omega) (by simp) ?_))
      intro v w4 hown hgrow
      have hb4 : Below w3.heap.size w3 w4 := below_grown (below_allocF _ _) (by simp) hgrow (fun k hk => by simp [Value.ownBlock] at hk; omega)
      obtain ⟨co, c4, hv, ho4⟩ := owned_bytes (l := f) (by simpa using hown) (by rw [Hm.out])
      rw [← Hm.out] at hv
      have HO4 : Hid (w4.ownsRow w3.heap.size 5 1 (.slice co m c4) m (bytV f)) := by have := ho4; unfold OwnB at this; rwa [← Hm.out] at this
      have HX4 := Lib.hid (HX3.out.grow hb4)
      have HP4 := Lib.hid (HP3.out.grow hb4)
      have HB4 := Lib.hid (HB3.out.trans (hb4.mono s3))
      have s4 := hb4.size
      have HB34 := Lib.hid hb4
      have s4' := HB4.out.size
      rw [hv]
      clear hown hgrow hv ho4 hb4
      go_wp2_with (at_builtin; go_must (refine wpList_append_foot _ rfl (.tmp 69) (.tmp 70) 22 rfl w3.heap.size 5 i0 (.int .u8 0) 1 1 Try.underlying22 hi hz0 hz1 hz2 rfl (by decide) co m c4 (bytV f) rfl HO4.out bo more.length cb (bytV more) rfl Hq.out.n0 (by rw [bytV_length, Nat.mul_one]) (BAt.cells (Hq.out.at_.below HB4.out)) (bytV_one _) (by unfold maxLen; omega) (by omega) s4 ?_))
      intro do5 c5 w5 hown hgrow hco
      have hb5 : Below w3.heap.size w3 w5 := below_grown HB34.out s4 hgrow (fun k hk => own_block HO4.out hk)
      have hl5 : (f ++ more).length = m + more.length := by rw [List.length_append, Hm.out]
      have ho5 : OwnB w5 w3.heap.size do5 c5 (f ++ more) := by unfold OwnB; rw [hl5, ← bytV_append]; exact hown
      have hdec := decode_any do5 c5 (f ++ more) w5 ho5.sl (by omega)
      rw [Hdec.out, hl5, Hpn.out] at hdec
      have HdecC := Lib.hid hdec
      have HX5 := Lib.hid (HX3.out.grow hb5)
      have HP5 := Lib.hid (HP3.out.grow hb5)
      have HB5 := Lib.hid (HB3.out.trans (hb5.mono s3))
      have s5 := HB5.out.size
      clear hown hgrow hco hb5 hl5 ho5 hdec HX3 HP3 HB3 HX4 HP4 HB4 HO4 HB34 Hdec
      go_wp2_with fail
      refine HdecC.out.mono ?_
      rintro e w6 ⟨qo, qc, rfl, ho, hb⟩
      have HX6 := Lib.hid (HX5.out.grow hb)
      have HP6 := Lib.hid (HP5.out.grow hb)
      have HB6 := Lib.hid (HB5.out.trans (hb.mono s5))
      have HQ6 := Lib.hid ho.sl
      have s6 := HB6.out.size
      clear ho hb HX5 HP5 HB5 HdecC
      simp only [Hpn.out]
      have honc := one_any xo xc f w6 HX6.out (by rw [← Hm.out]; omega)
      rw [Hone1.out, ← Hm.out] at honc
      unfold OnePost at honc
      simp only [Hpn.out] at honc
      have Honc := Lib.hid honc
      clear honc Hone1
      go_wp2_with fail
      refine Honc.out.mono ?_
      rintro e w7 ⟨oo, oc, rfl, ho, hb⟩
      have HX7 := Lib.hid (HX6.out.grow hb)
      have HP7 := Lib.hid (HP6.out.grow hb)
      have HB7 := Lib.hid (HB6.out.trans (hb.mono s6))
      have HQ7 := Lib.hid (HQ6.out.grow hb)
      have HO7 := Lib.hid ho.sl
      have s7 := HB7.out.size
      clear ho hb HX6 HP6 HB6 HQ6 Honc
      go_wp2_with (at_builtin; go_must (refine wpList_append_any _ rfl (.tmp 82) (.tmp 83) 22 rfl w7.heap.size 5 i0 (.int .u8 0) 1 1 Try.underlying22 hi hz0 hz1 hz2 rfl (by decide) _ 0 [] rfl (owns_emptyAt _ w7.heap.size rfl w7.heap.size (Nat.le_refl _) 5 1) xo m xc (bytV f) rfl (fun h => by have := HX7.out.n0 h; have := Hm.out; omega) (by rw [bytV_length, ← Hm.out, Nat.mul_one]) (BAt.cells (HX7.out.at_.below (below_allocF _ _))) (bytV_one _) (by unfold maxLen; omega) (by omega) (by simp) ?_))
      intro v w8 hown hgrow
      have hb8 : Below w7.heap.size w7 w8 := below_grown (below_allocF _ _) (by simp) hgrow (fun k hk => by simp [Value.ownBlock] at hk; omega)
      obtain ⟨co2, c8, hv, ho8⟩ := owned_bytes (l := f) (by simpa using hown) (by rw [Hm.out])
      rw [← Hm.out] at hv
      have HO8 : Hid (w8.ownsRow w7.heap.size 5 1 (.slice co2 m c8) m (bytV f)) := by have := ho8; unfold OwnB at this; rwa [← Hm.out] at this
      have HB78 := Lib.hid hb8
      have s8 := hb8.size
      rw [hv]
      clear hown hgrow hv ho8 hb8
      go_wp2_with (at_builtin; go_must (refine wpList_append_foot _ rfl (.tmp 84) (.tmp 85) 22 rfl w7.heap.size 5 i0 (.int .u8 0) 1 1 Try.underlying22 hi hz0 hz1 hz2 rfl (by decide) co2 m c8 (bytV f) rfl (HO8.out.alloc _) (some ⟨w8.heap.size, 0, none⟩) 1 1 (bytV [(1 : UInt8)]) rfl (fun h => (nomatch h)) rfl (one_cell w8 1 _ _ rfl) (bytV_one _) (by unfold maxLen; omega) (by omega) (by simp; omega) ?_))
      intro eo c9 w9 hown hgrow hco
      have hb9 : Below w7.heap.size w7 w9 := below_grown (HB78.out.alloc s8 _) (by simp; omega) hgrow (fun k hk => own_block HO8.out hk)
      have hl9 : (f ++ [1]).length = m + 1 := by rw [List.length_append, Hm.out]; rfl
      have ho9 : OwnB w9 w7.heap.size eo c9 (f ++ [1]) := by unfold OwnB; rw [hl9, ← bytV_append]; exact hown
      have honc := one_any eo c9 (f ++ [1]) w9 ho9.sl (by omega)
      rw [Hone2.out, hl9] at honc
      have Honc := Lib.hid honc
      have HP9 := Lib.hid (HP7.out.grow hb9)
      have HQ9 := Lib.hid (HQ7.out.grow hb9)
      have HO9 := Lib.hid (HO7.out.grow hb9)
      have HB9 := Lib.hid (HB7.out.trans (hb9.mono s7))
      have s9 := HB9.out.size
      clear hown hgrow hco hb9 hl9 ho9 honc HX7 HP7 HB7 HQ7 HO7 HO8 HB78 Hone2
      go_wp2_with fail
      refine Honc.out.mono ?_
      rintro e w10 ⟨ko, kc, rfl, -, hb⟩
      have HP10 := Lib.hid (HP9.out.grow hb)
      have HQ10 := Lib.hid (HQ9.out.grow hb)
      have HO10 := Lib.hid (HO9.out.grow hb)
      have HB10 := Lib.hid (HB9.out.trans (hb.mono s9))
      have s10 := HB10.out.size
      clear hb HP9 HQ9 HO9 HB9 Honc
      simp only
      have e1 : (((n + 12 : Nat) : Int) == (m : Int)) = true := by rw [Hfl.out]; simp
      have e2 : (((n : Int) + 12) == (m : Int)) = true := by rw [Hfl.out]; simp
      have hsm := fun w a b => same_yes qo po qc pc p w a b (by rw [Hpn.out]; omega)
      have hsm2 := fun w a b => same_yes oo po oc pc p w a b (by rw [Hpn.out]; omega)
      rw [Hpn.out] at hsm hsm2
      have Hsm := Lib.hid hsm
      have Hsm2 := Lib.hid hsm2
      clear hsm hsm2
      go_wp2_with fail
      refine (Hsm.out _ HQ10.out.at_ HP10.out.at_).mono ?_
      rintro e w11 ⟨rfl, hb⟩
      have HP11 := Lib.hid (HP10.out.grow hb)
      have HO11 := Lib.hid (HO10.out.grow hb)
      have HB11 := Lib.hid (HB10.out.trans (hb.mono s10))
      have s11 := HB11.out.size
      clear hb HP10 HQ10 HO10 HB10 Hsm
      go_wp2_with fail
      refine (Hsm2.out _ HO11.out.at_ HP11.out.at_).mono ?_
      rintro e w12 ⟨rfl, hb⟩
      have HB12 := Lib.hid (HB11.out.trans (hb.mono s11))
      have s12 := HB12.out.size
      clear hb HP11 HO11 HB11 Hsm2
      go_wp2_with fail
      refine (known_any _).mono ?_
      rintro e w13 ⟨rfl, hb⟩
      have HB13 := Lib.hid (HB12.out.trans (hb.mono s12))
      clear hb
      go_wp2_with fail
      go_ret
      exact ⟨rfl, HB13.out⟩
namespace FrameEncodesLift
open Go.ChangeShapes Go.WideShapes Go.ChangeAt Go.RowKit Go.Joins Go.Deep
open Go.ChangeMaps (open_string shut_string)

theorem own : ownKnob Try.prog.godebug = none := by kernel_rfl
theorem laidOut : laidOutB Try.prog = true := by kernel_rfl

set_option maxHeartbeats 1000000 in
set_option maxRecDepth 100000 in
theorem lifted (os : Os) (started : os.Started) (H : Type) (enc : TypeId × Value → H) :
    ReturnsInHanded {} Try.checked os 4 .any (Rows.frameEncodesSpec.pre6 enc Try.prog Try.f4 Rows.frameEncodesRow.domain false) (Rows.frameEncodesSpec.post enc Try.prog Try.f4 false true false false) := by
  refine returnsInHanded_of_change_sized (C := Try.checked) own started (by kernel_rfl) Try.func4
    (ChangeSpec.witness6 (enc := enc) (C := Try.checked) false ⟨#[], #[.slice none 0 0, .slice none 0 0], []⟩ 8 (by kernel_rfl) (by kernel_rfl) (by kernel_rfl) (by kernel_rfl)) ?_
  intro W base args ds gs before hval0 hW hcnd hsz0 _
  have hval : ∀ (j : Nat) t v, Try.f4.params[j]? = some t → args[j]? = some v → Value.okWide Try.prog W .any base t v := hval0
  have hW' := hW
  obtain ⟨p, q, hA0, hV, rfl, hfz, hnd⟩ := hW
  have hA : DataW.TrodAll enc Try.prog W 0 (fun _ => true) true Try.f4.params.toList args.toList ds p := hA0
  have hsz : (DataW.weightsEach Try.prog (Try.f4.params.toList ++ Rows.frameEncodesSpec.plain.varTypes Try.prog) (ds ++ gs)).all (· ≤ reachBytes) = true := hsz0
  rw [Try.params4] at hA hval hsz
  obtain ⟨v0, vs0, d0, ds0, p0, q0, hargs, rfl, rfl, h0, r0⟩ := trodAll_cons hA
  obtain ⟨v1, vs1, d1, ds1, p1, q1, rfl, rfl, rfl, h1, r1⟩ := trodAll_cons r0
  obtain ⟨rfl, rfl, rfl⟩ := trodAll_nil r1
  obtain rfl : args = #[v0, v1] := by cases args; simp_all
  obtain ⟨rfl, rfl⟩ := trodVars_none hV
  have k0 := h0
  have lt0 : ∀ x ∈ p0, x.block < W.heap.size := by obtain ⟨m, hm⟩ := k0; exact DataW.trod_lt m _ _ _ hm
  have k1 := h1
  have lt1 : ∀ x ∈ p1, x.block < W.heap.size := by obtain ⟨m, hm⟩ := k1; exact DataW.trod_lt m _ _ _ hm
  have post : ∀ e W', e = Ending.returned (.bool true) → Below W.heap.size W W' → ∃ v, e = .returned v ∧ Rows.frameEncodesSpec.post enc Try.prog Try.f4 false true false false W #[v0, v1] v W' := by
    intro e W' he bel
    subst he
    exact ⟨_, rfl, _, _, _, [], _, [], hW', trodAll_mk1 (shut_bool Try.underlying4 _), (trodAll_cons_mk (Below.trod laidOut (by kernel_rfl) (of_decide_eq_true (by kernel_rfl)) k0 bel lt0) (trodAll_cons_mk (Below.trod laidOut (by kernel_rfl) (of_decide_eq_true (by kernel_rfl)) k1 bel lt1) trodAll_mk0)), rfl, bel.frame _, fun h => by cases h⟩
  clear hW' hcnd hfz hnd hA0 hA hval0
  have hb1 : Try.prog.bytesOf 5 = 1 := by kernel_rfl
  have hb24 : Try.prog.bytesOf 22 = 24 := by kernel_rfl
  obtain ⟨ao, L, ca, rfl, hLc, hcm, hn0, hr⟩ := open_rows (hval 0 30 v0 rfl rfl) h0
  obtain ⟨bo, q, cb, rfl, hqc, hqm, hqn, hqa⟩ := open_bytes (hval 1 22 v1 rfl rfl) h1
  have ra := slice_reach hsz (j := 0) rfl rfl Try.underlying30 k0
  have rb := slice_reach hsz (j := 1) rfl rfl Try.underlying22 k1
  rw [hb24] at ra
  rw [hb1, Nat.mul_one] at rb
  unfold maxLen at hqm
  exact (enc_walk ao bo ca cb L q W hr hLc (by omega) ⟨hqc, by omega, hqn, hqa⟩ rb).mono fun e W' ⟨he, bel⟩ => post e W' he bel

theorem over : Rows.frameEncodesRow.holds Try.pinned (OpenSpec.ofChange Rows.frameEncodesSpec) :=
  OpenClaim.holds_of_wide 4 Try.f4 rfl rfl rfl rfl rfl rfl rfl ⟨rfl, rfl, rfl, rfl, rfl⟩ rfl rfl rfl rfl rfl (by kernel_rfl) Try.func4 (by kernel_rfl)
    (of_decide_eq_true (by kernel_rfl)) (by unfold Func.isWrapper; first | (rw [if_pos (by decide +kernel)]; kernel_rfl) | (rw [if_neg (by decide +kernel)]; exact ⟨rfl, rfl⟩))
    (fun os started H enc _ => lifted os started H enc)
end FrameEncodesLift

/-- The statement. -/
theorem frameEncodes_holds : Rows.FrameEncodesSaid := FrameEncodesLift.over
#print axioms frameEncodes_holds
end Go.Proofs.Ytgbhbhmjolihnaa
