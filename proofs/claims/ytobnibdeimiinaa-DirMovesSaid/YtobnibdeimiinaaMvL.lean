/- No more moves are under way than may be, and no more zones are there: the statement DirMoves, for every row of changes. -/
import Derived.Test.YtobnibdeimiinaaPlE
import Derived.Test.YtobnibdeimiinaaRows
namespace Go.Proofs.Ytobnibdeimiinaa
open Go.RowKit Go.Joins

set_option maxRecDepth 20000 in
set_option maxHeartbeats 4000000 in
theorem moves_walk (lo : Option Addr) (lc : Nat) (l : List Ch) (w : World) (hlm : l.length ≤ 9223372036854775807) (hl : ChAt w lo l) :
    Calls Try.prog 7 #[.slice lo l.length lc] w fun e w' => e = .returned (.bool true) ∧ Below w.heap.size w w' := by
  obtain ⟨hv, hhv⟩ : ∃ hv, hv = heavyC l := ⟨_, rfl⟩
  have hhe := heavyC_any lo lc l w hl hlm
  rw [← hhv] at hhe
  have Hhe := Lib.hid hhe
  have Hl := Lib.hid hl
  clear hhe hhv hl
  cases hv with
  | true =>
    go_enter Try.func7, Try.ntmps7
    go_wp2_with fail
    refine Hhe.out.mono ?_
    rintro e w1 ⟨rfl, w1_b⟩
    go_wp2_with fail
    go_ret
    exact ⟨rfl, w1_b⟩
  | false =>
    go_enter Try.func7, Try.ntmps7
    go_wp2_with fail
    refine Hhe.out.mono ?_
    rintro e w1 ⟨rfl, w1_b⟩
    go_wp2_with fail
    refine calls_name fun wh hwh => ?_
    have hb1 : Below w.heap.size w wh := by rw [hwh]; exact w1_b.trans ((below_allocO w1 _).mono w1_b.size)
    have hia : IAtD wh (some ⟨w1.heap.size, 0, none⟩) hosts6 := by rw [hwh]; exact iat_lit w1 _ rfl hosts6 3 (0, 0)
    clear hwh
    refine (played_any (some ⟨w1.heap.size, 0, none⟩) 6 hosts6 lo lc l wh (fun h => nomatch h) hia (by decide) (Hl.out.grow hb1) hlm).mono ?_
    intro e w2 hp
    obtain ⟨p, g, zc, b, c', p2, g2, zc2, b2, c2', rfl, hS⟩ := play_yes hp ok6
    have HI := Lib.hid (play_inv ok6 l)
    obtain ⟨m, hm⟩ : ∃ m, m = playM hosts6 l := ⟨_, rfl⟩
    rw [← hm] at hS HI
    have S2 := Lib.hid hS
    clear hm hS hp hia w1_b Hhe
    go_wp2_with fail
    refine (map_any S2.out.head HI.out.pos (Nat.le_trans HI.out.len (by decide))).mono ?_
    rintro e w3 ⟨ga, ca, rfl, ho, hb⟩
    have S3 := Lib.hid (S2.out.grow hb)
    have Hza := Lib.hid ho.at
    have hlen := HI.out.len
    obtain ⟨n, hn⟩ : ∃ n, n = m.zs.length := ⟨_, rfl⟩
    rw [← hn] at hlen ⊢
    have Hn := Lib.hid hn
    clear S2 ho hb hn
    go_wp2_with fail
    refine wp_name fun wd hwd => ?_
    have S4 : Hid (St wh wd (Two wh p g zc b c' p2 g2 zc2 b2 c2' hosts6 m m)) := by rw [hwd]; exact Lib.hid (S3.out.grow (below_allocO w3 _))
    have hzd : Hid (ZnAt wd ga m.zs) := by rw [hwd]; exact Lib.hid (Hza.out.grow (below_allocO w3 _))
    obtain ⟨N, hN⟩ : ∃ N, N = w3.heap.size := ⟨_, rfl⟩
    have d0 : wd.cell? ⟨N, 0, none⟩ = some (.int .i64 m.ver) := by rw [hwd, hN]; go_simp
    have d1 : wd.cell? ⟨N, 1, none⟩ = some (.int .i64 m.next) := by rw [hwd, hN]; go_simp
    have d2 : wd.cell? ⟨N, 2, none⟩ = some (.slice (some ⟨ga, 0, none⟩) n ca) := by rw [hwd, hN]; go_simp
    have sN : N < wd.heap.size := by rw [hwd, hN]; simp
    rw [← hN]
    clear hwd hN S3 Hza
    go_loopw [9, 6, 7] (fun s9 s6 s7 wr => ∃ i a q : Nat, s9 = .int .i64 i ∧ s6 = .int .i64 a ∧ s7 = .int .i64 q ∧ i ≤ n ∧ a ≤ i ∧ q ≤ i ∧ Hid (a = pendN 3 (m.zs.take i)) ∧ Hid (q = pendN 1 (m.zs.take i)) ∧ Hid (Below wd.heap.size wd wr)) (fun s9 _ _ _ => n - (intOf s9).toNat)
    case atStart => exact ⟨0, 0, 0, rfl, rfl, rfl, by omega, by omega, by omega, Lib.hid (by simp [pendN]), Lib.hid (by simp [pendN]), Lib.hid (Below.refl _ _)⟩
    case round =>
      obtain ⟨i, a, q, rfl, rfl, rfl, hi, hai, hqi, Ha, Hb, HB⟩ := hrel
      have wr_b := HB.out
      obtain ⟨xc, -⟩ := bcell wr_b
      have sr := wr_b.size
      have r0 := (xc _ _ sN).trans d0
      have r1 := (xc _ _ sN).trans d1
      have r2 := (xc _ _ sN).trans d2
      have sNr : N < wr.heap.size := by omega
      clear xc
      by_cases hlt : i < n
      · have hl1 : i < m.zs.length := by have := Hn.out; omega
        obtain ⟨z, hz⟩ : ∃ z, z = m.zs[i] := ⟨_, rfl⟩
        obtain ⟨f0, f1, f2, f3, f4, f5, f6, f7, f8⟩ := (hzd.out.grow wr_b).nine i hl1 z hz
        have hp3 := pendN_take 3 m.zs i hl1
        have hp1 := pendN_take 1 m.zs i hl1
        rw [← hz] at hp3 hp1
        have Hp3 := Lib.hid hp3
        have Hp1 := Lib.hid hp1
        clear hz hp3 hp1 f0 f1 f2 f3 f4 f6 f7 f8
        by_cases q3 : z.pend = 3
        · have e3 : (z.pend == 3) = true := by rw [q3]; rfl
          have e1 : (z.pend == 1) = false := by rw [q3]; rfl
          have Q3 := Lib.hid q3
          clear q3
          ((go_wp2_with fail); go_roundw; (case rel => exact ⟨i + 1, a + 1, q, (by go_num), (by first | rfl | go_num), (by first | rfl | go_num), (by omega), (by omega), (by omega), Lib.hid (by rw [Hp3.out, Ha.out]; rw [if_pos Q3.out]), Lib.hid (by rw [Hp1.out, Hb.out]; rw [if_neg (by rw [Q3.out]; decide)]; rfl), HB⟩); (case measure => (simp [intOf]; omega)))
        · have e3 : (z.pend == 3) = false := by rw [beq_eq_false_iff_ne]; exact q3
          have Q3 := Lib.hid q3
          clear q3
          by_cases q1 : z.pend = 1
          · have e1 : (z.pend == 1) = true := by rw [q1]; rfl
            have Q1 := Lib.hid q1
            clear q1
            ((go_wp2_with fail); go_roundw; (case rel => exact ⟨i + 1, a, q + 1, (by go_num), (by first | rfl | go_num), (by first | rfl | go_num), (by omega), (by omega), (by omega), Lib.hid (by rw [Hp3.out, Ha.out]; rw [if_neg Q3.out]; rfl), Lib.hid (by rw [Hp1.out, Hb.out]; rw [if_pos Q1.out]), HB⟩); (case measure => (simp [intOf]; omega)))
          · have e1 : (z.pend == 1) = false := by rw [beq_eq_false_iff_ne]; exact q1
            have Q1 := Lib.hid q1
            clear q1
            ((go_wp2_with fail); go_roundw; (case rel => exact ⟨i + 1, a, q, (by go_num), (by first | rfl | go_num), (by first | rfl | go_num), (by omega), (by omega), (by omega), Lib.hid (by rw [Hp3.out, Ha.out]; rw [if_neg Q3.out]; rfl), Lib.hid (by rw [Hp1.out, Hb.out]; rw [if_neg Q1.out]; rfl), HB⟩); (case measure => (simp [intOf]; omega)))
      · have ha : a ≤ 2 := by rw [Ha.out, List.take_of_length_le (by rw [← Hn.out]; omega)]; exact HI.out.moves
        have hq : n + q ≤ 16 := by
          have := HI.out.room
          rw [nums_length, ← Hn.out] at this
          have h2 := Hb.out
          rw [List.take_of_length_le (by rw [← Hn.out]; omega)] at h2
          omega
        have S5 := Lib.hid (S4.out.grow wr_b)
        have hz5 := Lib.hid (hzd.out.grow wr_b)
        obtain ⟨wo, rfl⟩ : ∃ wo : World, wo = wr := ⟨_, rfl⟩
        obtain ⟨pl, n0, n1, n2, -, -⟩ := dir_cells S5.out.swap2.head
        rw [← Hn.out] at n2
        have e1 : decide ((a : Int) ≤ 2) = true := by rw [decide_eq_true_eq]; omega
        have e1' : decide (a ≤ 2) = true := by rw [decide_eq_true_eq]; omega
        have e2 : decide ((n : Int) + q ≤ 16) = true := by rw [decide_eq_true_eq]; omega
        have e2' : decide (n + q ≤ 16) = true := by rw [decide_eq_true_eq]; omega
        have e3 : IntKind.i64.wrap ((n : Int) + q) = (n : Int) + q := by rw [IntKind.wrap_i64]; omega
        have hmy : Hid (∀ w3, Below wo.heap.size wo w3 → Calls Try.prog 21 #[.agg #[.int .i64 m.ver, .int .i64 m.next, .slice (some ⟨ga, 0, none⟩) n ca]] w3 fun e w' => e = .returned (.bool true) ∧ Below w3.heap.size w3 w') := by
          intro w3 hb3
          have := may_any (zc := ca) (hz5.out.grow hb3) (Nat.le_trans HI.out.len (by decide))
          rw [HI.out.mayM, ← Hn.out] at this
          exact this
        have hmp : Hid (∀ w3, Below wo.heap.size wo w3 → Calls Try.prog 16 #[.agg #[.int .i64 m.ver, .int .i64 m.next, .slice (some ⟨ga, 0, none⟩) n ca], .agg #[.int .i64 m.ver, .int .i64 m.next, .slice (some ⟨g2, 0, none⟩) n zc2]] w3 fun e w' => e = .returned (.bool true) ∧ Below w3.heap.size w3 w') := by
          intro w3 hb3
          have := maps_same m (k1 := ca) (k2 := zc2) (hz5.out.grow hb3) (S5.out.grow hb3).swap2.head.2.1.at HI.out.len
          rw [← Hn.out] at this
          exact this
        clear d0 d1 d2 sN wr_b
        go_wp2_with fail
        go_region_held3 (fun W => Below wo.heap.size wo W ∧ ∀ b o, b < wo.heap.size → W.cell? ⟨b, o, none⟩ = wo.cell? ⟨b, o, none⟩) (first | exact stay_drew _ | exact stay_next (by assumption) (by assumption) | exact stay_mk (by repeat (first | with_reducible exact Below.refl _ _ | with_reducible exact stay_below (by assumption) | with_reducible refine Below.drew ?_ | with_reducible refine Below.alloc ?_ (by first | omega | (simp; done) | (simp; omega) | (simp at *; omega)) _ | with_reducible refine Below.setCell ?_ (by first | omega | (simp; done) | (simp; omega) | (simp at *; omega)) _ | with_reducible refine Below.trans ?_ (Below.mono (by assumption) (by first | omega | (simp; done) | (simp; omega) | (simp at *; omega)))))) (first | (go_at_call 21; refine (hmy.out _ (stay_below (by assumption))).mono ?_; rintro e W' ⟨rfl, hbw⟩) | (go_at_call 16; refine (hmp.out _ (stay_below (by assumption))).mono ?_; rintro e W2 ⟨rfl, hbw2⟩) | (go_at_call 17; refine (known_any _).mono ?_; rintro e W3 ⟨rfl, hbw3⟩) | fail)
        all_goals
          go_wp2_with fail
          go_ret
          exact ⟨rfl, hb1.trans ((S5.out.grow (stay_below (by assumption))).b.mono hb1.size)⟩
namespace DirMovesLift
open Go.ChangeShapes Go.WideShapes Go.ChangeAt Go.RowKit Go.Joins Go.Deep
open Go.ChangeMaps (open_string shut_string)

theorem own : ownKnob Try.prog.godebug = none := by kernel_rfl
theorem laidOut : laidOutB Try.prog = true := by kernel_rfl

set_option maxHeartbeats 1000000 in
set_option maxRecDepth 100000 in
theorem lifted (os : Os) (started : os.Started) (H : Type) (enc : TypeId × Value → H) :
    ReturnsInHanded {} Try.checked os 7 .any (Rows.dirMovesSpec.pre6 enc Try.prog Try.f7 Rows.dirMovesRow.domain false) (Rows.dirMovesSpec.post enc Try.prog Try.f7 false true false false) := by
  refine returnsInHanded_of_change (C := Try.checked) own started (by kernel_rfl) Try.func7
    (ChangeSpec.witness6 (enc := enc) (C := Try.checked) false ⟨#[], #[.slice none 0 0], []⟩ 8 (by kernel_rfl) (by kernel_rfl) (by kernel_rfl) (by kernel_rfl)) ?_
  intro W base args ds gs before hval0 hW hcnd _
  have hval : ∀ (j : Nat) t v, Try.f7.params[j]? = some t → args[j]? = some v → Value.okWide Try.prog W .any base t v := hval0
  have hW' := hW
  obtain ⟨p, q, hA0, hV, rfl, hfz, hnd⟩ := hW
  have hA : DataW.TrodAll enc Try.prog W 0 (fun _ => true) true Try.f7.params.toList args.toList ds p := hA0
  rw [Try.params7] at hA hval
  obtain ⟨v0, vs0, d0, ds0, p0, q0, hargs, rfl, rfl, h0, r0⟩ := trodAll_cons hA
  obtain ⟨rfl, rfl, rfl⟩ := trodAll_nil r0
  obtain rfl : args = #[v0] := by cases args; simp_all
  obtain ⟨rfl, rfl⟩ := trodVars_none hV
  have k0 := h0
  have lt0 : ∀ x ∈ p0, x.block < W.heap.size := by obtain ⟨m, hm⟩ := k0; exact DataW.trod_lt m _ _ _ hm
  have post : ∀ e W', e = Ending.returned (.bool true) → Below W.heap.size W W' → ∃ v, e = .returned v ∧ Rows.dirMovesSpec.post enc Try.prog Try.f7 false true false false W #[v0] v W' := by
    intro e W' he bel
    subst he
    exact ⟨_, rfl, _, _, _, [], _, [], hW', trodAll_mk1 (shut_bool Try.underlying4 _), (trodAll_cons_mk (Below.trod laidOut (by kernel_rfl) (of_decide_eq_true (by kernel_rfl)) k0 bel lt0) trodAll_mk0), rfl, bel.frame _, fun h => by cases h⟩
  clear hW' hcnd hfz hnd hA0 hA hval0
  obtain ⟨ao, cap, l, rfl, hm, hr⟩ := open_chs (okWide_slice Try.underlying22 (hval 0 22 v0 rfl rfl)) h0
  exact (moves_walk ao cap l W hm hr).mono fun e W' ⟨he, bel⟩ => post e W' he bel

theorem over : Rows.dirMovesRow.holds Try.pinned (OpenSpec.ofChange Rows.dirMovesSpec) :=
  OpenClaim.holds_of_wide 7 Try.f7 rfl rfl rfl rfl rfl rfl rfl ⟨rfl, rfl, rfl, rfl, rfl⟩ rfl rfl rfl rfl rfl (by kernel_rfl) Try.func7 (by kernel_rfl)
    (of_decide_eq_true (by kernel_rfl)) (by unfold Func.isWrapper; first | (rw [if_pos (by decide +kernel)]; kernel_rfl) | (rw [if_neg (by decide +kernel)]; exact ⟨rfl, rfl⟩))
    (fun os started H enc _ => lifted os started H enc)
end DirMovesLift

/-- The statement. -/
theorem dirMoves_holds : Rows.DirMovesSaid := DirMovesLift.over
#print axioms dirMoves_holds
end Go.Proofs.Ytobnibdeimiinaa
