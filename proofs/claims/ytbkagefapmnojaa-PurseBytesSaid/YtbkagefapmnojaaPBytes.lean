/- Any purse as bytes, and any bytes as a purse: the statement PurseBytes, for every purse and all bytes. -/
import Derived.Test.YtbkagefapmnojaaItDec
import Derived.Test.YtbkagefapmnojaaOpenIt
import Derived.Test.YtbkagefapmnojaaOpenB
import Derived.Test.YtbkagefapmnojaaW2
import Derived.Test.YtbkagefapmnojaaRows
namespace Go.Proofs.Ytbkagefapmnojaa
open Go.ChangeShapes Go.WideShapes Go.Deep Go.Joins Go.RowKit

theorem eql_self (i : It) (w : World) : (Op.equalIn 10000 23 (.agg #[.int .i64 i.a, .int .i64 i.b, .int .i64 i.c, .int .i64 i.d]) (.agg #[.int .i64 i.a, .int .i64 i.b, .int .i64 i.c, .int .i64 i.d])).run Try.prog w = .ok true w := by
  rw [eql_items i i w]; simp
set_option maxRecDepth 40000 in
set_option maxHeartbeats 4000000 in
theorem pbytes_any (i : It) (ao : Option Addr) (cap : Nat) (l : List UInt8) (w : World) (hlc : l.length ≤ cap) (hcm : cap ≤ 9223372036854775807) (h0 : ao = none → l.length = 0 ∧ cap = 0) (ha : BAt w ao l) :
    Calls Try.prog 9 #[.agg #[.int .i64 i.a, .int .i64 i.b, .int .i64 i.c, .int .i64 i.d], .slice ao l.length cap] w fun e w' => e = .returned (.bool true) ∧ Below w.heap.size w w' := by
  have Ha := Lib.hid ha
  have H0 := Lib.hid h0
  clear ha h0
  by_cases hbig : (100 : Int) < l.length
  · go_enter Try.func9, Try.ntmps9
    go_wp2_with fail
    go_ret
    exact ⟨rfl, (by repeat (first | with_reducible exact Below.refl _ _ | with_reducible assumption | with_reducible refine Below.drew ?_ | with_reducible refine below_drawn ?_ | with_reducible refine Below.alloc ?_ (by first | omega | (simp; done) | (simp; omega) | (simp at *; omega)) _ | with_reducible refine Below.setCell ?_ (by first | omega | (simp; done) | (simp; omega) | (simp at *; omega)) _ | with_reducible refine Below.trans ?_ (Below.mono (by assumption) (by first | omega | (simp; done) | (simp; omega) | (simp at *; omega)))))⟩
  have hm : l.length ≤ 2000 := by omega
  have Hd := Lib.hid (fun ao cap w h0 ha => decit_any ao cap l w h0 ha hm)
  have Hrd := Lib.hid (fun w h0 ha => rdecit_any ao cap l w hlc hcm h0 ha hm)
  obtain ⟨q, hq⟩ : ∃ q, q = itR l := ⟨_, rfl⟩
  obtain ⟨E, hE⟩ : ∃ E, E = itE l := ⟨_, rfl⟩
  have hEE : (E != E) = false := by simp
  have heq := fun w => eql_self q w
  have heq2 := fun w => eql_self i w
  have Hq := Lib.hid hq
  have HE := Lib.hid hE
  clear hq hE
  have He := Lib.hid (fun w => encit_any i w)
  have Hre := Lib.hid (fun w => renc8_any i w)
  have Hd2 := Lib.hid (fun ao cap w h0 ha => decit_any ao cap (encItB i) w h0 ha (Nat.le_trans (encItB_len i) (by decide)))
  obtain ⟨p, hp⟩ : ∃ p, p = itR (encItB i) := ⟨_, rfl⟩
  obtain ⟨F, hF⟩ : ∃ F, F = itE (encItB i) := ⟨_, rfl⟩
  have Hback : Hid (isI i = true → p = i ∧ F = 0) := fun h => by rw [hp, hF]; exact it_back h
  obtain ⟨X, hX⟩ : ∃ X, X = encItB i := ⟨_, rfl⟩
  rw [← hX] at He Hre Hd2 hp hF
  have Hp := Lib.hid hp
  have HF := Lib.hid hF
  have Hi := Lib.hid (fun w => satrapyref8_is i w)
  clear hX hp hF
  go_enter Try.func9, Try.ntmps9
  go_wp2_with fail
  (refine calls_name fun wa hwa => ?_; have wa_s0 : w.heap.size < wa.heap.size := (by rw [hwa]; first | omega | (simp; done) | (simp; omega)); have wa_c0 : wa.cell? ⟨w.heap.size, 0, none⟩ = some (.int .i64 i.a) := (by rw [hwa]; go_simp); have wa_c1 : wa.cell? ⟨w.heap.size, 1, none⟩ = some (.int .i64 i.b) := (by rw [hwa]; go_simp); have wa_c2 : wa.cell? ⟨w.heap.size, 2, none⟩ = some (.int .i64 i.c) := (by rw [hwa]; go_simp); have wa_c3 : wa.cell? ⟨w.heap.size, 3, none⟩ = some (.int .i64 i.d) := (by rw [hwa]; go_simp); have wa_b : Below w.heap.size w wa := (by rw [hwa]; exact (by repeat (first | with_reducible exact Below.refl _ _ | with_reducible assumption | with_reducible refine Below.drew ?_ | with_reducible refine below_drawn ?_ | with_reducible refine Below.alloc ?_ (by first | omega | (simp; done) | (simp; omega) | (simp at *; omega)) _ | with_reducible refine Below.setCell ?_ (by first | omega | (simp; done) | (simp; omega) | (simp at *; omega)) _ | with_reducible refine Below.trans ?_ (Below.mono (by assumption) (by first | omega | (simp; done) | (simp; omega) | (simp at *; omega)))))); clear hwa)
  refine (Hd.out ao cap _ H0.out (Ha.out.below wa_b)).mono ?_
  rintro e w1 ⟨rfl, hb1⟩
  rw [← Hq.out, ← HE.out]
  have w1_b : Below w.heap.size w w1 := wa_b.trans (hb1.mono (by omega))
  obtain ⟨h1c, h1f⟩ := bcell hb1
  have s1 : w.heap.size < w1.heap.size := by have := hb1.size; omega
  have w1_d := w1_b.alloc w1_b.size (.cells #[.int .i64 q.a, .int .i64 q.b, .int .i64 q.c, .int .i64 q.d] 23)
  clear hb1
  go_wp2_with fail
  refine (Hrd.out _ H0.out (Ha.out.below w1_d)).mono ?_
  rintro e w2 ⟨rfl, hb2⟩
  rw [← Hq.out, ← HE.out]
  have w2_b : Below w.heap.size w w2 := w1_d.trans (hb2.mono w1_d.size)
  obtain ⟨h2c, h2f⟩ := bcell hb2
  have z2 := hb2.size
  simp only [World.alloc, Array.size_push] at z2
  have s2 : w.heap.size < w2.heap.size := by omega
  have t2 : w1.heap.size < w2.heap.size := by omega
  have u2 : w.heap.size < w1.heap.size + 1 := by omega
  have w2_d := w2_b.alloc w2_b.size (.cells #[.int .i64 q.a, .int .i64 q.b, .int .i64 q.c, .int .i64 q.d] 23)
  clear hb2
  go_wp2_with fail
  refine (He.out _).mono ?_
  rintro e w3 ⟨xo, xc, rfl, hox, hb3⟩
  have w3_b : Below w.heap.size w w3 := w2_d.trans (hb3.mono w2_d.size)
  obtain ⟨h3c, h3f⟩ := bcell hb3
  have z3 := hb3.size
  simp only [World.alloc, Array.size_push] at z3
  have s3 : w.heap.size < w3.heap.size := by omega
  have t3 : w1.heap.size < w3.heap.size := by omega
  have v3 : w2.heap.size < w3.heap.size := by omega
  have u3 : w.heap.size < w2.heap.size + 1 := by omega
  have u4 : w1.heap.size < w2.heap.size + 1 := by omega
  have Hox := Lib.hid hox
  clear hb3 hox
  go_wp2_with fail
  refine (Hd2.out xo xc _ Hox.out.none Hox.out.at).mono ?_
  rintro e w4 ⟨rfl, hb4⟩
  rw [← Hp.out, ← HF.out]
  have w4_b : Below w.heap.size w w4 := w3_b.trans (hb4.mono w3_b.size)
  obtain ⟨h4c, h4f⟩ := bcell hb4
  have z4 := hb4.size
  have s4 : w.heap.size < w4.heap.size := by omega
  have t4 : w1.heap.size < w4.heap.size := by omega
  have v4 : w2.heap.size < w4.heap.size := by omega
  clear hb4
  go_wp2_with fail
  (refine wp_name fun wb hwb => ?_; have wb_s0 : w.heap.size < wb.heap.size := (by rw [hwb]; first | omega | (simp; done) | (simp; omega)); have wb_s1 : w1.heap.size < wb.heap.size := (by rw [hwb]; first | omega | (simp; done) | (simp; omega)); have wb_s2 : w2.heap.size < wb.heap.size := (by rw [hwb]; first | omega | (simp; done) | (simp; omega)); have wb_s3 : w4.heap.size < wb.heap.size := (by rw [hwb]; first | omega | (simp; done) | (simp; omega)); have wb_c0 : wb.cell? ⟨w.heap.size, 0, none⟩ = some (.int .i64 i.a) := (by rw [hwb]; go_simp); have wb_c1 : wb.cell? ⟨w.heap.size, 1, none⟩ = some (.int .i64 i.b) := (by rw [hwb]; go_simp); have wb_c2 : wb.cell? ⟨w.heap.size, 2, none⟩ = some (.int .i64 i.c) := (by rw [hwb]; go_simp); have wb_c3 : wb.cell? ⟨w.heap.size, 3, none⟩ = some (.int .i64 i.d) := (by rw [hwb]; go_simp); have wb_c4 : wb.cell? ⟨w1.heap.size, 0, none⟩ = some (.int .i64 q.a) := (by rw [hwb]; go_simp); have wb_c5 : wb.cell? ⟨w1.heap.size, 1, none⟩ = some (.int .i64 q.b) := (by rw [hwb]; go_simp); have wb_c6 : wb.cell? ⟨w1.heap.size, 2, none⟩ = some (.int .i64 q.c) := (by rw [hwb]; go_simp); have wb_c7 : wb.cell? ⟨w1.heap.size, 3, none⟩ = some (.int .i64 q.d) := (by rw [hwb]; go_simp); have wb_c8 : wb.cell? ⟨w2.heap.size, 0, none⟩ = some (.int .i64 q.a) := (by rw [hwb]; go_simp); have wb_c9 : wb.cell? ⟨w2.heap.size, 1, none⟩ = some (.int .i64 q.b) := (by rw [hwb]; go_simp); have wb_c10 : wb.cell? ⟨w2.heap.size, 2, none⟩ = some (.int .i64 q.c) := (by rw [hwb]; go_simp); have wb_c11 : wb.cell? ⟨w2.heap.size, 3, none⟩ = some (.int .i64 q.d) := (by rw [hwb]; go_simp); have wb_c12 : wb.cell? ⟨w4.heap.size, 0, none⟩ = some (.int .i64 p.a) := (by rw [hwb]; go_simp); have wb_c13 : wb.cell? ⟨w4.heap.size, 1, none⟩ = some (.int .i64 p.b) := (by rw [hwb]; go_simp); have wb_c14 : wb.cell? ⟨w4.heap.size, 2, none⟩ = some (.int .i64 p.c) := (by rw [hwb]; go_simp); have wb_c15 : wb.cell? ⟨w4.heap.size, 3, none⟩ = some (.int .i64 p.d) := (by rw [hwb]; go_simp); have wb_b : Below w.heap.size w wb := (by rw [hwb]; exact (by repeat (first | with_reducible exact Below.refl _ _ | with_reducible assumption | with_reducible refine Below.drew ?_ | with_reducible refine below_drawn ?_ | with_reducible refine Below.alloc ?_ (by first | omega | (simp; done) | (simp; omega) | (simp at *; omega)) _ | with_reducible refine Below.setCell ?_ (by first | omega | (simp; done) | (simp; omega) | (simp at *; omega)) _ | with_reducible refine Below.trans ?_ (Below.mono (by assumption) (by first | omega | (simp; done) | (simp; omega) | (simp at *; omega)))))); clear hwb)
  go_region_held3 (fun W => Below wb.heap.size wb W ∧ ∀ b o, b < wb.heap.size → W.cell? ⟨b, o, none⟩ = wb.cell? ⟨b, o, none⟩) (first | assumption | exact stay_drew _ | exact stay_next (by assumption) (by assumption)) (first
    | (go_at_call 23; refine (He.out _).mono ?_; rintro e w5 ⟨yo, yc, rfl, ho5, hb5⟩)
    | (go_at_call 25; refine (Hre.out _).mono ?_; rintro e w6 ⟨zo, zc, rfl, ho6, hb6⟩)
    | (go_at_call 24; refine (lbytes_any yo zo yc zc X _ (ho5.at.below hb6) ho6.at).mono ?_; rintro e w7 ⟨rfl, rfl⟩)
    | fail)
  have hbA : Below wb.heap.size wb w5 := ((Below.refl wb.heap.size wb).drew).trans (hb5.mono (Nat.le_refl _))
  have hbB : Below wb.heap.size wb w6 := hbA.trans (hb6.mono hbA.size)
  have w6_b : Below w.heap.size w w6 := wb_b.trans (hbB.mono (by omega))
  obtain ⟨h6c, h6f⟩ := bcell hbB
  have s6 : w.heap.size < w6.heap.size := by have := hbB.size; omega
  have t6 : w4.heap.size < w6.heap.size := by have := hbB.size; omega
  clear ho5 ho6 hb5 hb6 hbA hbB
  cases hz : isI i with
  | false =>
    rw [hz] at Hi
    clear hz
    go_wp2_with fail
    refine (Hi.out _).mono ?_
    rintro e w7 ⟨rfl, hb7⟩
    have w7_b : Below w.heap.size w w7 := w6_b.trans (hb7.mono w6_b.size)
    clear hb7
    go_wp2_with fail
    refine (known_any _).mono ?_
    rintro e w8 ⟨rfl, hb8⟩
    have w8_b : Below w.heap.size w w8 := w7_b.trans (hb8.mono w7_b.size)
    clear hb8
    go_wp2_with fail
    go_ret
    exact ⟨rfl, w8_b⟩
  | true =>
    obtain ⟨rfl, rfl⟩ := Hback.out hz
    rw [hz] at Hi
    clear hz Hback
    go_wp2_with fail
    refine (Hi.out _).mono ?_
    rintro e w7 ⟨rfl, hb7⟩
    have w7_b : Below w.heap.size w w7 := w6_b.trans (hb7.mono w6_b.size)
    obtain ⟨h7c, h7f⟩ := bcell hb7
    have s7 : w.heap.size < w7.heap.size := by have := hb7.size; omega
    have t7 : w4.heap.size < wb.heap.size := wb_s3
    have t8 : w4.heap.size < w7.heap.size := by have := hb7.size; omega
    clear hb7
    go_wp2_with fail
    refine (known_any _).mono ?_
    rintro e w8 ⟨rfl, hb8⟩
    have w8_b : Below w.heap.size w w8 := w7_b.trans (hb8.mono w7_b.size)
    clear hb8
    go_wp2_with fail
    go_ret
    exact ⟨rfl, w8_b⟩
namespace PurseBytesLift
open Go.ChangeShapes Go.WideShapes Go.ChangeAt Go.RowKit Go.Joins Go.Deep
open Go.ChangeMaps (open_string shut_string)

theorem own : ownKnob Try.prog.godebug = none := by kernel_rfl
theorem laidOut : laidOutB Try.prog = true := by kernel_rfl

set_option maxHeartbeats 1000000 in
set_option maxRecDepth 100000 in
theorem lifted (os : Os) (started : os.Started) (H : Type) (enc : TypeId × Value → H) :
    ReturnsInHanded {} Try.checked os 9 .any (Rows.purseBytesSpec.pre6 enc Try.prog Try.f9 Rows.purseBytesRow.domain false) (Rows.purseBytesSpec.post enc Try.prog Try.f9 false true false false) := by
  refine returnsInHanded_of_change (C := Try.checked) own started (by kernel_rfl) Try.func9
    (ChangeSpec.witness6 (enc := enc) (C := Try.checked) false ⟨#[], #[.agg #[.int .i64 0, .int .i64 0, .int .i64 0, .int .i64 0], .slice none 0 0], []⟩ 8 (by kernel_rfl) (by kernel_rfl) (by kernel_rfl) (by kernel_rfl)) ?_
  intro W base args ds gs before hval0 hW hcnd _
  have hval : ∀ (j : Nat) t v, Try.f9.params[j]? = some t → args[j]? = some v → Value.okWide Try.prog W .any base t v := hval0
  have hW' := hW
  obtain ⟨p, q, hA0, hV, rfl, hfz, hnd⟩ := hW
  have hA : DataW.TrodAll enc Try.prog W 0 (fun _ => true) true Try.f9.params.toList args.toList ds p := hA0
  rw [Try.params9] at hA hval
  obtain ⟨v0, vs0, d0, ds0, p0, q0, hargs, rfl, rfl, h0, r0⟩ := trodAll_cons hA
  obtain ⟨v1, vs1, d1, ds1, p1, q1, rfl, rfl, rfl, h1, r1⟩ := trodAll_cons r0
  obtain ⟨rfl, rfl, rfl⟩ := trodAll_nil r1
  obtain rfl : args = #[v0, v1] := by cases args; simp_all
  obtain ⟨rfl, rfl⟩ := trodVars_none hV
  have k0 := h0
  have lt0 : ∀ x ∈ p0, x.block < W.heap.size := by obtain ⟨m, hm⟩ := k0; exact DataW.trod_lt m _ _ _ hm
  have k1 := h1
  have lt1 : ∀ x ∈ p1, x.block < W.heap.size := by obtain ⟨m, hm⟩ := k1; exact DataW.trod_lt m _ _ _ hm
  have post : ∀ e W', e = Ending.returned (.bool true) → Below W.heap.size W W' → ∃ v, e = .returned v ∧ Rows.purseBytesSpec.post enc Try.prog Try.f9 false true false false W #[v0, v1] v W' := by
    intro e W' he bel
    subst he
    exact ⟨_, rfl, _, _, _, [], _, [], hW', trodAll_mk1 (shut_bool Try.underlying4 _), (trodAll_cons_mk (Below.trod laidOut (by kernel_rfl) (of_decide_eq_true (by kernel_rfl)) k0 bel lt0) (trodAll_cons_mk (Below.trod laidOut (by kernel_rfl) (of_decide_eq_true (by kernel_rfl)) k1 bel lt1) trodAll_mk0)), rfl, bel.frame _, fun h => by cases h⟩
  clear hW' hcnd hfz hnd hA0 hA hval0
  obtain ⟨i, rfl⟩ := open_items (hval 0 23 v0 rfl rfl) h0
  obtain ⟨ao, l, cap, rfl, hlc, hcm, h0', ha⟩ := open_bytes (hval 1 35 v1 rfl rfl) h1
  exact (pbytes_any i ao cap l W hlc (by unfold maxLen at hcm; exact hcm) h0' ha).mono fun e W' ⟨he, bel⟩ => post e W' he bel

theorem over : Rows.purseBytesRow.holds Try.pinned (OpenSpec.ofChange Rows.purseBytesSpec) :=
  OpenClaim.holds_of_wide 9 Try.f9 rfl rfl rfl rfl rfl rfl rfl ⟨rfl, rfl, rfl, rfl, rfl⟩ rfl rfl rfl rfl rfl (by kernel_rfl) Try.func9 (by kernel_rfl)
    (of_decide_eq_true (by kernel_rfl)) (by unfold Func.isWrapper; first | (rw [if_pos (by decide +kernel)]; kernel_rfl) | (rw [if_neg (by decide +kernel)]; exact ⟨rfl, rfl⟩))
    (fun os started H enc _ => lifted os started H enc)
end PurseBytesLift

/-- The statement. -/
theorem purseBytes_holds : Rows.PurseBytesSaid := PurseBytesLift.over
#print axioms purseBytes_holds
end Go.Proofs.Ytbkagefapmnojaa
