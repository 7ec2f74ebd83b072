/- The law FrameDecodes: any bytes begin with a record, or are refused for the first reason; all records from the beginning on. -/
import Derived.Test.YtgbhbhmjolihnaaFrHelp
import Derived.Test.YtgbhbhmjolihnaaRows
import Derived.Test.YtgbhbhmjolihnaaOpenR
namespace Go.Proofs.Ytgbhbhmjolihnaa
open Go.RowKit Go.Joins

set_option maxRecDepth 40000 in
set_option maxHeartbeats 8000000 in
theorem dec_walk (ao : Option Addr) (ca : Nat) (b : List UInt8) (w0 : World) (hp : Sl w0 ao ca b) :
    Calls Try.prog 7 #[.slice ao b.length ca] w0 fun e w' => e = .returned (.bool true) ∧ Below w0.heap.size w0 w' := by
  have Hb := Lib.hid hp
  have hbl := Nat.le_trans hp.le hp.cm
  clear hp
  by_cases hbig : (4000 : Int) < b.length
  · go_enter Try.func7, Try.ntmps7
    go_wp2_with fail
    go_ret
    exact ⟨rfl, (by repeat (first | with_reducible exact Below.refl _ _ | with_reducible assumption | with_reducible refine Below.drew ?_ | with_reducible refine below_drawn ?_ | with_reducible refine Below.alloc ?_ (by first | omega | (simp; done) | (simp; omega) | (simp at *; omega)) _ | with_reducible refine Below.setCell ?_ (by first | omega | (simp; done) | (simp; omega) | (simp at *; omega)) _ | with_reducible refine Below.trans ?_ (Below.mono (by assumption) (by first | omega | (simp; done) | (simp; omega) | (simp at *; omega)))))⟩
  obtain ⟨rd, rn, re, hd⟩ : ∃ rd rn re, decB b = (rd, rn, re) := ⟨_, _, _, rfl⟩
  obtain ⟨od, oe, ho⟩ : ∃ od oe, oneB b = (od, oe) := ⟨_, _, rfl⟩
  obtain ⟨sl, sn, hs⟩ : ∃ sl sn, scanB b = (sl, sn) := ⟨_, _, rfl⟩
  have hdl : rd.length ≤ b.length := by
    by_cases h0 : re = 0
    · have := dec_ok (l := b) (by rw [hd]; exact h0); rw [hd] at this; simp only at this; omega
    · have := dec_err (l := b) (by rw [hd]; exact h0); rw [hd] at this; simp only at this; rw [this.1]; simp
  have hol : od.length ≤ b.length := by
    unfold oneB at ho
    rw [hd] at ho
    split at ho
    · simp only [Prod.mk.injEq] at ho; rw [← ho.1]; simp
    · simp only [Prod.mk.injEq] at ho; rw [← ho.1]; exact hdl
  have C1 := Lib.hid (fun ao cap w h => decode_any ao cap b w h (by omega))
  have C2 := Lib.hid (fun ao cap w h => refDecode_any ao cap b w h (by omega))
  have C3 := Lib.hid (fun ao cap w h => one_any ao cap b w h (by omega))
  have C4 := Lib.hid (fun ao cap w h => refOne_any ao cap b w h (by omega))
  have C5 := Lib.hid (fun ao cap w h => scanframe_any ao cap b w h (by omega))
  have C6 := Lib.hid (fun ao cap w h => scansatrapyref2_any ao cap b w h (by omega))
  rw [hd] at C1 C2
  rw [ho] at C3 C4
  rw [hs] at C5 C6
  clear hd ho hs
  go_enter Try.func7, Try.ntmps7
  go_wp2_with fail
  refine (roomy_any ao ca b w0 Hb.out.n0 Hb.out.at_ (by omega)).mono ?_
  rintro e w1 ⟨x, xc, rfl, ho1, hb1⟩
  have S1 := Lib.hid ((St.start w0).own hb1 ho1)
  have hxle := ho1.le
  simp only [List.length_append, List.length_cons, List.length_nil] at hxle
  have hq1 : b.length ≤ xc := by omega
  have hq2 : (b.length : Int) ≤ xc := by omega
  have hat := own_short ho1 b.length (by simp)
  rw [List.take_left] at hat
  have HX := Lib.hid hat.sl
  clear ho1 hb1 hat
  go_wp2_with fail
  refine (C1.out _ _ _ HX.out).mono ?_
  rintro e w2 ⟨po, pc, rfl, hp, hb2⟩
  have S2 := Lib.hid (S1.out.own hb2 hp)
  have HX2 := Lib.hid (HX.out.grow hb2)
  have hw1 := hb2.size
  clear hp hb2 S1 HX C1
  simp only
  go_wp2_with fail
  refine (C2.out _ _ _ (Hb.out.grow S2.out.b)).mono ?_
  rintro e w3 ⟨qo, qc, rfl, hq, hb3⟩
  have S3 := Lib.hid (S2.out.grow hb3)
  have HX3 := Lib.hid (HX2.out.grow hb3)
  have Q3 := Lib.hid hq.sl
  have hw2 := hb3.size
  clear hq hb3 S2 HX2 C2
  simp only
  go_wp2_with fail
  refine (C3.out _ _ _ HX3.out).mono ?_
  rintro e w4 ⟨oo, oc, rfl, ho, hb4⟩
  have S4 := Lib.hid (S3.out.grow hb4)
  have HX4 := Lib.hid (HX3.out.grow hb4)
  have Q4 := Lib.hid (Q3.out.grow hb4)
  have O4 := Lib.hid ho.sl
  have hw3 := hb4.size
  clear ho hb4 S3 HX3 C3 Q3
  simp only
  go_wp2_with fail
  refine (C4.out _ _ _ (Hb.out.grow S4.out.b)).mono ?_
  rintro e w5 ⟨no, nc, rfl, hn, hb5⟩
  have S5 := Lib.hid (S4.out.grow hb5)
  have HX5 := Lib.hid (HX4.out.grow hb5)
  have Q5 := Lib.hid (Q4.out.grow hb5)
  have O5 := Lib.hid (O4.out.grow hb5)
  have N5 := Lib.hid hn.sl
  have hw4 := hb5.size
  clear hn hb5 S4 HX4 C4 Q4 O4
  simp only
  go_wp2_with fail
  refine (C5.out _ _ _ HX5.out).mono ?_
  rintro e w6 ⟨lo, lc, L, rfl, hL, heL, hb6⟩
  have S6 := Lib.hid (S5.out.grow hb6)
  have Q6 := Lib.hid (Q5.out.grow hb6)
  have O6 := Lib.hid (O5.out.grow hb6)
  have N6 := Lib.hid (N5.out.grow hb6)
  have L6 := Lib.hid (own_rows_at hL)
  have hLl := hL.le
  have hw5 := hb6.size
  have HeL := Lib.hid heL
  clear hL heL hb6 S5 HX5 C5 Q5 O5 N5
  simp only
  go_wp2_with fail
  refine (C6.out _ _ _ (Hb.out.grow S6.out.b)).mono ?_
  rintro e w7 ⟨mo, mc, M, rfl, hM, heM, hb7⟩
  have S7 := Lib.hid (S6.out.grow hb7)
  have Q7 := Lib.hid (Q6.out.grow hb7)
  have O7 := Lib.hid (O6.out.grow hb7)
  have N7 := Lib.hid (N6.out.grow hb7)
  have L7 := Lib.hid (L6.out.grow hb7)
  have M7 := Lib.hid (own_rows_at hM)
  have hw6 := hb7.size
  have HeM := Lib.hid heM
  clear hM heM hb7 S6 C6 Q6 O6 N6 L6
  simp only
  go_wp2_with fail
  refine (same_yes po qo pc qc rd _ S7.out.head.at Q7.out.at_ (by omega)).mono ?_
  rintro e w8 ⟨rfl, hb8⟩
  have S8 := Lib.hid (S7.out.grow hb8)
  have O8 := Lib.hid (O7.out.grow hb8)
  have N8 := Lib.hid (N7.out.grow hb8)
  have L8 := Lib.hid (L7.out.grow hb8)
  have M8 := Lib.hid (M7.out.grow hb8)
  have hw7 := hb8.size
  clear hb8 S7 Q7 O7 N7 L7 M7
  go_wp2_with fail
  refine (rows_yes lo mo lc mc L M _ _ _ L8.out M8.out (HeL.out.trans HeM.out.symm) (by omega)).mono ?_
  rintro e w9 ⟨rfl, hb9⟩
  have S9 := Lib.hid (S8.out.grow hb9)
  have O9 := Lib.hid (O8.out.grow hb9)
  have N9 := Lib.hid (N8.out.grow hb9)
  have hw8 := hb9.size
  clear hb9 S8 O8 N8 L8 M8 HeL HeM
  go_wp2_with fail
  refine (same_yes oo no oc nc od _ O9.out.at_ N9.out.at_ (by omega)).mono ?_
  rintro e w10 ⟨rfl, hb10⟩
  have S10 := Lib.hid (S9.out.grow hb10)
  have hw9 := hb10.size
  clear hb10 S9 O9 N9
  go_wp2_with fail
  refine (spoil_any po pc w1.heap.size rd _ S10.out.head (by omega) (by omega)).mono ?_
  rintro e w11 ⟨rfl, hk⟩
  have S11 := Lib.hid (S10.out.lose hk)
  clear hk S10
  go_wp2_with fail
  refine (stands_yes x xc ao ca b _ _ S11.out.head (Hb.out.at_.below S11.out.b) (by omega)).mono ?_
  rintro e w12 ⟨rfl, hb12⟩
  have S12 := Lib.hid (S11.out.grow hb12)
  clear hb12 S11
  go_wp2_with fail
  refine (known_any _).mono ?_
  rintro e w13 ⟨rfl, hb13⟩
  have HB := Lib.hid (S12.out.grow hb13).b
  clear hb13 S12
  go_wp2_with fail
  go_ret
  exact ⟨rfl, HB.out⟩
namespace FrameDecodesLift
open Go.ChangeShapes Go.WideShapes Go.ChangeAt Go.RowKit Go.Joins Go.Deep
open Go.ChangeMaps (open_string shut_string)

theorem own : ownKnob Try.prog.godebug = none := by kernel_rfl
theorem laidOut : laidOutB Try.prog = true := by kernel_rfl

set_option maxHeartbeats 1000000 in
set_option maxRecDepth 100000 in
theorem lifted (os : Os) (started : os.Started) (H : Type) (enc : TypeId × Value → H) :
    ReturnsInHanded {} Try.checked os 7 .any (Rows.frameDecodesSpec.pre6 enc Try.prog Try.f7 Rows.frameDecodesRow.domain false) (Rows.frameDecodesSpec.post enc Try.prog Try.f7 false true false false) := by
  refine returnsInHanded_of_change (C := Try.checked) own started (by kernel_rfl) Try.func7
    (ChangeSpec.witness6 (enc := enc) (C := Try.checked) false ⟨#[], #[.slice none 0 0], []⟩ 8 (by kernel_rfl) (by kernel_rfl) (by kernel_rfl) (by kernel_rfl)) ?_
  intro W base args ds gs before hval0 hW hcnd _
  have hval : ∀ (j : Nat) t v, Try.f7.params[j]? = some t → args[j]? = some v → Value.okWide Try.prog W .any base t v := hval0
  have hW' := hW
  obtain ⟨p, q, hA0, hV, rfl, hfz, hnd⟩ := hW
  have hA : DataW.TrodAll enc Try.prog W 0 (fun _ => true) true Try.f7.params.toList args.toList ds p := hA0
  rw [Try.params7] at hA hval
  obtain ⟨v0, vs0, d0, ds0, p0, q0, hargs, rfl, rfl, h0, r0⟩ := trodAll_cons hA
  obtain ⟨rfl, rfl, rfl⟩ := trodAll_nil r0
  obtain rfl : args = #[v0] := by cases args; simp_all
  obtain ⟨rfl, rfl⟩ := trodVars_none hV
  have k0 := h0
  have lt0 : ∀ x ∈ p0, x.block < W.heap.size := by obtain ⟨m, hm⟩ := k0; exact DataW.trod_lt m _ _ _ hm
  have post : ∀ e W', e = Ending.returned (.bool true) → Below W.heap.size W W' → ∃ v, e = .returned v ∧ Rows.frameDecodesSpec.post enc Try.prog Try.f7 false true false false W #[v0] v W' := by
    intro e W' he bel
    subst he
    exact ⟨_, rfl, _, _, _, [], _, [], hW', trodAll_mk1 (shut_bool Try.underlying4 _), (trodAll_cons_mk (Below.trod laidOut (by kernel_rfl) (of_decide_eq_true (by kernel_rfl)) k0 bel lt0) trodAll_mk0), rfl, bel.frame _, fun h => by cases h⟩
  clear hW' hcnd hfz hnd hA0 hA hval0
  obtain ⟨ao, p, ca, rfl, hpc, hpm, hpn, hpa⟩ := open_bytes (hval 0 22 v0 rfl rfl) h0
  unfold maxLen at hpm
  exact (dec_walk ao ca p W ⟨hpc, by omega, hpn, hpa⟩).mono fun e W' ⟨he, bel⟩ => post e W' he bel

theorem over : Rows.frameDecodesRow.holds Try.pinned (OpenSpec.ofChange Rows.frameDecodesSpec) :=
  OpenClaim.holds_of_wide 7 Try.f7 rfl rfl rfl rfl rfl rfl rfl ⟨rfl, rfl, rfl, rfl, rfl⟩ rfl rfl rfl rfl rfl (by kernel_rfl) Try.func7 (by kernel_rfl)
    (of_decide_eq_true (by kernel_rfl)) (by unfold Func.isWrapper; first | (rw [if_pos (by decide +kernel)]; kernel_rfl) | (rw [if_neg (by decide +kernel)]; exact ⟨rfl, rfl⟩))
    (fun os started H enc _ => lifted os started H enc)
end FrameDecodesLift

/-- The statement. -/
theorem frameDecodes_holds : Rows.FrameDecodesSaid := FrameDecodesLift.over
#print axioms frameDecodes_holds
end Go.Proofs.Ytgbhbhmjolihnaa
