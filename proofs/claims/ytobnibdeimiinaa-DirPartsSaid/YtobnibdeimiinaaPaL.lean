/- Behind any changes the zones have each key just once, and it is found in its zone: the statement DirParts, for every row of changes and key. -/
import Derived.Test.YtobnibdeimiinaaPlE
import Derived.Test.YtobnibdeimiinaaRFi
import Derived.Test.YtobnibdeimiinaaRows
namespace Go.Proofs.Ytobnibdeimiinaa
open Go.RowKit Go.Joins

set_option maxRecDepth 20000 in
set_option maxHeartbeats 4000000 in
theorem parts_walk (lo : Option Addr) (lc : Nat) (l : List Ch) (k : ByteArray) (w : World) (hlm : l.length ≤ 9223372036854775807) (hl : ChAt w lo l) :
    Calls Try.prog 9 #[.slice lo l.length lc, .string k] w fun e w' => e = .returned (.bool true) ∧ Below w.heap.size w w' := by
  obtain ⟨hv, hhv⟩ : ∃ hv, hv = heavyC l := ⟨_, rfl⟩
  have hhe := heavyC_any lo lc l w hl hlm
  rw [← hhv] at hhe
  have Hhe := Lib.hid hhe
  have Hl := Lib.hid hl
  clear hhe hhv hl
  cases hv with
  | true =>
    (go_enter Try.func9, Try.ntmps9; (go_wp2_with fail); (refine Hhe.out.mono ?_); (rintro e w1 ⟨rfl, w1_b⟩); (go_wp2_with fail); go_ret; exact ⟨rfl, w1_b⟩)
  | false =>
    by_cases q1 : (k.size : Int) < 1
    · have e1 : decide ((k.size : Int) < 1) = true := by rw [decide_eq_true_eq]; exact q1
      (go_enter Try.func9, Try.ntmps9; (go_wp2_with fail); (refine Hhe.out.mono ?_); (rintro e w1 ⟨rfl, w1_b⟩); (go_wp2_with fail); go_ret; exact ⟨rfl, w1_b⟩)
    have e1 : decide ((k.size : Int) < 1) = false := by rw [decide_eq_false_iff_not]; exact q1
    by_cases q2 : (16 : Int) < k.size
    · have e2 : decide ((16 : Int) < k.size) = true := by rw [decide_eq_true_eq]; exact q2
      (go_enter Try.func9, Try.ntmps9; (go_wp2_with fail); (refine Hhe.out.mono ?_); (rintro e w1 ⟨rfl, w1_b⟩); (go_wp2_with fail); go_ret; exact ⟨rfl, w1_b⟩)
    have e2 : decide ((16 : Int) < k.size) = false := by rw [decide_eq_false_iff_not]; exact q2
    have Hk : Hid ((1 : Int) ≤ k.size ∧ (k.size : Int) ≤ 16) := Lib.hid (by omega)
    clear q1 q2
    go_enter Try.func9, Try.ntmps9
    go_wp2_with fail
    refine Hhe.out.mono ?_
    rintro e w1 ⟨rfl, w1_b⟩
    go_wp2_with fail
    refine calls_name fun wh hwh => ?_
    have hb1 : Below w.heap.size w wh := by rw [hwh]; exact w1_b.trans ((below_allocO w1 _).mono w1_b.size)
    have hia : IAtD wh (some ⟨w1.heap.size, 0, none⟩) hosts3 := by rw [hwh]; exact iat_lit w1 _ rfl hosts3 3 (0, 0)
    clear hwh
    refine (played_any (some ⟨w1.heap.size, 0, none⟩) 3 hosts3 lo lc l wh (fun h => nomatch h) hia (by decide) (Hl.out.grow hb1) hlm).mono ?_
    intro e w2 hp
    obtain ⟨p, g, zc, b, c', p2, g2, zc2, b2, c2', rfl, hS⟩ := play_yes hp ok3
    have HI := Lib.hid (play_inv ok3 l)
    obtain ⟨m, hm⟩ : ∃ m, m = playM hosts3 l := ⟨_, rfl⟩
    rw [← hm] at hS HI
    have S2 := Lib.hid hS
    have H1 : Hid (cnt k (m.zs.map spz) = 1) := Lib.hid (chain_one HI.out.chain Hk.out.1 Hk.out.2)
    clear hm hS hp hia w1_b Hhe e1 e2
    go_wp2_with fail
    refine (map_any S2.out.head HI.out.pos (Nat.le_trans HI.out.len (by decide))).mono ?_
    rintro e w3 ⟨ga, ca, rfl, ho, hb⟩
    have S3 := Lib.hid (S2.out.grow hb)
    have Hza := Lib.hid ho.at
    have hlen := HI.out.len
    obtain ⟨n, hn⟩ : ∃ n, n = m.zs.length := ⟨_, rfl⟩
    rw [← hn] at hlen ⊢
    have Hn := Lib.hid hn
    clear S2 ho hb hn
    go_wp2_with fail
    refine wp_name fun wd hwd => ?_
    have S4 : Hid (St wh wd (Two wh p g zc b c' p2 g2 zc2 b2 c2' hosts3 m m)) := by rw [hwd]; exact Lib.hid (S3.out.grow (below_allocO w3 _))
    have hzd : Hid (ZnAt wd ga m.zs) := by rw [hwd]; exact Lib.hid (Hza.out.grow (below_allocO w3 _))
    obtain ⟨N, hN⟩ : ∃ N, N = w3.heap.size := ⟨_, rfl⟩
    have d2 : wd.cell? ⟨N, 2, none⟩ = some (.slice (some ⟨ga, 0, none⟩) n ca) := by rw [hwd, hN]; go_simp
    have sN : N < wd.heap.size := by rw [hwd, hN]; simp
    rw [← hN]
    clear hwd hN S3 Hza
    go_loopw [10, 9] (fun s10 s9 wr => ∃ i a : Nat, s10 = .int .i64 i ∧ s9 = .int .i64 a ∧ i ≤ n ∧ a ≤ i ∧ Hid (a = cnt k ((m.zs.map spz).take i)) ∧ Hid (Below wd.heap.size wd wr)) (fun s10 _ _ => n - (intOf s10).toNat)
    case atStart => exact ⟨0, 0, rfl, rfl, by omega, by omega, Lib.hid (by simp [cnt]), Lib.hid (Below.refl _ _)⟩
    case round =>
      obtain ⟨i, a, rfl, rfl, hi, hai, Ha, HB⟩ := hrel
      have wr_b := HB.out
      obtain ⟨xc, -⟩ := bcell wr_b
      have sr := wr_b.size
      have r2 := (xc _ _ sN).trans d2
      have sNr : N < wr.heap.size := by omega
      clear xc
      by_cases hlt : i < n
      · have hl1 : i < m.zs.length := by have := Hn.out; omega
        obtain ⟨z, hz⟩ : ∃ z, z = m.zs[i] := ⟨_, rfl⟩
        obtain ⟨f0, f1, f2, f3, f4, f5, f6, f7, f8⟩ := (hzd.out.grow wr_b).nine i hl1 z hz
        obtain ⟨r, hr⟩ : ∃ r, r = inB z.fr z.to k := ⟨_, rfl⟩
        have hin := satrapyref12_in z.fr z.to k wr
        rw [← hr] at hin
        have Hin := Lib.hid hin
        have hcn := cnt_next k (m.zs.map spz) i (by simpa using hl1)
        rw [List.getElem_map, ← hz] at hcn
        have Hcn := Lib.hid hcn
        have Hbb : Hid (r = inB (spz z).1 (spz z).2 k) := Lib.hid hr
        clear hz hr hin hcn f0 f3 f4 f5 f6 f7 f8
        go_wp2_with fail
        refine Hin.out.mono ?_
        rintro e w7 ⟨rfl, hb7⟩
        clear r2 f1 f2 wr_b
        cases r
        · ((go_wp2_with fail); go_roundw; (case rel => exact ⟨i + 1, a, (by go_num), (by first | rfl | go_num), (by omega), (by omega), Lib.hid (by rw [Hcn.out, Ha.out, ← Hbb.out]; rfl), Lib.hid (HB.out.trans (hb7.mono sr))⟩); (case measure => (simp [intOf]; omega)))
        · ((go_wp2_with fail); go_roundw; (case rel => exact ⟨i + 1, a + 1, (by go_num), (by first | rfl | go_num), (by omega), (by omega), Lib.hid (by rw [Hcn.out, Ha.out, ← Hbb.out]; rfl), Lib.hid (HB.out.trans (hb7.mono sr))⟩); (case measure => (simp [intOf]; omega)))
      · have ha : a = 1 := by
          have := Ha.out
          rw [List.take_of_length_le (by rw [List.length_map, ← Hn.out]; omega), H1.out] at this
          exact this
        subst ha
        obtain ⟨z, hz, hzk⟩ := hasZ_one H1.out
        have S5 := Lib.hid (S4.out.grow wr_b)
        have hf := findZn_any S5.out.head (Nat.le_trans HI.out.len (by decide)) k
        rw [hz] at hf
        have Hf := Lib.hid hf
        have Hz := Lib.hid hz
        have Hzk := Lib.hid hzk
        clear hf hz hzk d2 sN
        go_wp2_with fail
        refine Hf.out.mono ?_
        unfold FindPost
        rintro e w8 ⟨rfl, hb8⟩
        have S6 := Lib.hid (S5.out.grow hb8)
        clear hb8 Hf S5
        simp only [Option.getD_some, Option.isSome_some]
        obtain ⟨pl, n0, n1, n2, -, -⟩ := dir_cells S6.out.swap2.head
        rw [← Hn.out] at n2
        have hrf : Hid (∀ w9, Below w8.heap.size w8 w9 → Calls Try.prog 23 #[.agg #[.int .i64 m.ver, .int .i64 m.next, .slice (some ⟨g2, 0, none⟩) n zc2], .string k] w9 (FindPost w9 (some z))) := by
          intro w9 hb9
          have := rfindZn_any (zc := zc2) (S6.out.grow hb9).swap2.head.2.1.at (Nat.le_trans HI.out.len (by decide)) m.ver m.next k
          rw [Hz.out, ← Hn.out] at this
          exact this
        have heq := fun w => eql_zn z z w true (by rw [eqZ_iff]; simp)
        have Heq := Lib.hid heq
        clear heq
        go_wp2_with fail
        (refine calls_name fun wx hwx => ?_; have wx_s0 : w8.heap.size < wx.heap.size := (by rw [hwx]; first | omega | (simp; done) | (simp; omega)); have wx_c0 : wx.cell? ⟨w8.heap.size, 0, none⟩ = some (.int .i64 z.id) := (by rw [hwx]; go_simp); have wx_c1 : wx.cell? ⟨w8.heap.size, 1, none⟩ = some (.string z.fr) := (by rw [hwx]; go_simp); have wx_c2 : wx.cell? ⟨w8.heap.size, 2, none⟩ = some (.string z.to) := (by rw [hwx]; go_simp); have wx_c3 : wx.cell? ⟨w8.heap.size, 3, none⟩ = some (.int .i64 z.owner) := (by rw [hwx]; go_simp); have wx_c4 : wx.cell? ⟨w8.heap.size, 4, none⟩ = some (.int .i64 z.epoch) := (by rw [hwx]; go_simp); have wx_c5 : wx.cell? ⟨w8.heap.size, 5, none⟩ = some (.int .i64 z.pend) := (by rw [hwx]; go_simp); have wx_c6 : wx.cell? ⟨w8.heap.size, 6, none⟩ = some (.int .i64 z.tt) := (by rw [hwx]; go_simp); have wx_c7 : wx.cell? ⟨w8.heap.size, 7, none⟩ = some (.string z.key) := (by rw [hwx]; go_simp); have wx_c8 : wx.cell? ⟨w8.heap.size, 8, none⟩ = some (.int .i64 z.nw) := (by rw [hwx]; go_simp); have wx_b : Below w8.heap.size w8 wx := (by rw [hwx]; exact (by repeat (first | with_reducible exact Below.refl _ _ | with_reducible assumption | with_reducible refine Below.drew ?_ | with_reducible refine below_drawn ?_ | with_reducible refine Below.alloc ?_ (by first | omega | (simp; done) | (simp; omega) | (simp at *; omega)) _ | with_reducible refine Below.setCell ?_ (by first | omega | (simp; done) | (simp; omega) | (simp at *; omega)) _ | with_reducible refine Below.trans ?_ (Below.mono (by assumption) (by first | omega | (simp; done) | (simp; omega) | (simp at *; omega)))))); clear hwx)
        obtain ⟨A, hA⟩ : ∃ A, A = w8.heap.size := ⟨_, rfl⟩
        have hAx : A ≤ wx.heap.size := by omega
        have S7 := Lib.hid (S6.out.grow wx_b)
        have Hrf := Lib.hid (hrf.out _ wx_b)
        rw [← hA] at wx_s0 wx_c0 wx_c1 wx_c2 wx_c3 wx_c4 wx_c5 wx_c6 wx_c7 wx_c8 ⊢
        clear hA wx_b hrf S6 n0 n1 n2 pl
        refine Hrf.out.mono ?_
        unfold FindPost
        rintro e w9 ⟨rfl, hb9⟩
        have S8 := Lib.hid (S7.out.grow hb9)
        obtain ⟨xc, -⟩ := bcell hb9
        have g0 := (xc _ _ wx_s0).trans wx_c0
        have g1 := (xc _ _ wx_s0).trans wx_c1
        have g2 := (xc _ _ wx_s0).trans wx_c2
        have g3 := (xc _ _ wx_s0).trans wx_c3
        have g4 := (xc _ _ wx_s0).trans wx_c4
        have g5 := (xc _ _ wx_s0).trans wx_c5
        have g6 := (xc _ _ wx_s0).trans wx_c6
        have g7 := (xc _ _ wx_s0).trans wx_c7
        have g8 := (xc _ _ wx_s0).trans wx_c8
        have s9 := hb9.size
        have sA : A < w9.heap.size := by omega
        clear xc wx_s0 wx_c0 wx_c1 wx_c2 wx_c3 wx_c4 wx_c5 wx_c6 wx_c7 wx_c8 hb9 S7 Hrf
        simp only [Option.getD_some, Option.isSome_some]
        have heq := Heq.out
        go_wp2_with fail
        have hin := satrapyref12_in z.fr z.to k (w9.alloc (.cells (znV z).toArray 39))
        rw [Hzk.out] at hin
        refine hin.mono ?_
        rintro e w10 ⟨rfl, hb10⟩
        have S9 := Lib.hid ((S8.out.grow (below_allocO w9 _)).grow hb10)
        clear hin hb10 S8
        go_wp2_with fail
        refine (known_any _).mono ?_
        rintro e w11 ⟨rfl, hb11⟩
        have S10 := Lib.hid (S9.out.grow hb11)
        clear hb11 S9
        go_wp2_with fail
        go_ret
        exact ⟨rfl, hb1.trans (S10.out.b.mono hb1.size)⟩
namespace DirPartsLift
open Go.ChangeShapes Go.WideShapes Go.ChangeAt Go.RowKit Go.Joins Go.Deep
open Go.ChangeMaps (open_string shut_string)

theorem own : ownKnob Try.prog.godebug = none := by kernel_rfl
theorem laidOut : laidOutB Try.prog = true := by kernel_rfl

set_option maxHeartbeats 1000000 in
set_option maxRecDepth 100000 in
theorem lifted (os : Os) (started : os.Started) (H : Type) (enc : TypeId × Value → H) :
    ReturnsInHanded {} Try.checked os 9 .any (Rows.dirPartsSpec.pre6 enc Try.prog Try.f9 Rows.dirPartsRow.domain false) (Rows.dirPartsSpec.post enc Try.prog Try.f9 false true false false) := by
  refine returnsInHanded_of_change (C := Try.checked) own started (by kernel_rfl) Try.func9
    (ChangeSpec.witness6 (enc := enc) (C := Try.checked) false ⟨#[], #[.slice none 0 0, .string ⟨#[]⟩], []⟩ 8 (by kernel_rfl) (by kernel_rfl) (by kernel_rfl) (by kernel_rfl)) ?_
  intro W base args ds gs before hval0 hW hcnd _
  have hval : ∀ (j : Nat) t v, Try.f9.params[j]? = some t → args[j]? = some v → Value.okWide Try.prog W .any base t v := hval0
  have hW' := hW
  obtain ⟨p, q, hA0, hV, rfl, hfz, hnd⟩ := hW
  have hA : DataW.TrodAll enc Try.prog W 0 (fun _ => true) true Try.f9.params.toList args.toList ds p := hA0
  rw [Try.params9] at hA hval
  obtain ⟨v0, vs0, d0, ds0, p0, q0, hargs, rfl, rfl, h0, r0⟩ := trodAll_cons hA
  obtain ⟨v1, vs1, d1, ds1, p1, q1, rfl, rfl, rfl, h1, r1⟩ := trodAll_cons r0
  obtain ⟨rfl, rfl, rfl⟩ := trodAll_nil r1
  obtain rfl : args = #[v0, v1] := by cases args; simp_all
  obtain ⟨rfl, rfl⟩ := trodVars_none hV
  have k0 := h0
  have lt0 : ∀ x ∈ p0, x.block < W.heap.size := by obtain ⟨m, hm⟩ := k0; exact DataW.trod_lt m _ _ _ hm
  have k1 := h1
  have lt1 : ∀ x ∈ p1, x.block < W.heap.size := by obtain ⟨m, hm⟩ := k1; exact DataW.trod_lt m _ _ _ hm
  have post : ∀ e W', e = Ending.returned (.bool true) → Below W.heap.size W W' → ∃ v, e = .returned v ∧ Rows.dirPartsSpec.post enc Try.prog Try.f9 false true false false W #[v0, v1] v W' := by
    intro e W' he bel
    subst he
    exact ⟨_, rfl, _, _, _, [], _, [], hW', trodAll_mk1 (shut_bool Try.underlying4 _), (trodAll_cons_mk (Below.trod laidOut (by kernel_rfl) (of_decide_eq_true (by kernel_rfl)) k0 bel lt0) (trodAll_cons_mk (Below.trod laidOut (by kernel_rfl) (of_decide_eq_true (by kernel_rfl)) k1 bel lt1) trodAll_mk0)), rfl, bel.frame _, fun h => by cases h⟩
  clear hW' hcnd hfz hnd hA0 hA hval0
  obtain ⟨ao, cap, l, rfl, hm, hr⟩ := open_chs (okWide_slice Try.underlying22 (hval 0 22 v0 rfl rfl)) h0
  obtain ⟨x, rfl, -, -, -⟩ := open_string Try.underlying9 (hval 1 9 v1 rfl rfl) h1
  exact (parts_walk ao cap l x W hm hr).mono fun e W' ⟨he, bel⟩ => post e W' he bel

theorem over : Rows.dirPartsRow.holds Try.pinned (OpenSpec.ofChange Rows.dirPartsSpec) :=
  OpenClaim.holds_of_wide 9 Try.f9 rfl rfl rfl rfl rfl rfl rfl ⟨rfl, rfl, rfl, rfl, rfl⟩ rfl rfl rfl rfl rfl (by kernel_rfl) Try.func9 (by kernel_rfl)
    (of_decide_eq_true (by kernel_rfl)) (by unfold Func.isWrapper; first | (rw [if_pos (by decide +kernel)]; kernel_rfl) | (rw [if_neg (by decide +kernel)]; exact ⟨rfl, rfl⟩))
    (fun os started H enc _ => lifted os started H enc)
end DirPartsLift

/-- The statement. -/
theorem dirParts_holds : Rows.DirPartsSaid := DirPartsLift.over
#print axioms dirParts_holds
end Go.Proofs.Ytobnibdeimiinaa
