/- What was done of an Epoch is not done again, and nothing else of that Epoch: the statement DirOnce, for every row of changes and pick. -/
import Derived.Test.YtobnibdeimiinaaPlE
import Derived.Test.YtobnibdeimiinaaRows
namespace Go.Proofs.Ytobnibdeimiinaa
open Go.RowKit Go.Joins

set_option maxRecDepth 100000 in
theorem open_intO {W : World} {b : Nat} {v : Value} (hv : Value.okWide Try.prog W .any b 3 v) : ∃ n, v = .int .i64 n := by
  obtain ⟨n, rfl⟩ := Go.WideShapes.okWide_int Try.underlying3 hv
  exact ⟨n, rfl⟩
theorem bits_mask16 (x : Int) : ∃ m : Nat, bits .and .i64 x 65535 = m ∧ m ≤ 65535 := by
  refine ⟨(BitVec.ofInt 64 x &&& BitVec.ofInt 64 65535).toNat, ?_, ?_⟩
  · show IntKind.i64.wrap ((BitVec.ofInt 64 x &&& BitVec.ofInt 64 65535).toNat : Int) = _
    have h : (BitVec.ofInt 64 x &&& BitVec.ofInt 64 65535).toNat ≤ 65535 := by
      rw [BitVec.toNat_and]; exact Nat.and_le_right
    rw [IntKind.wrap_i64]; omega
  · rw [BitVec.toNat_and]; exact Nat.and_le_right
set_option maxRecDepth 20000 in
set_option maxHeartbeats 4000000 in
theorem once_walk (lo : Option Addr) (lc : Nat) (l : List Ch) (pick : Int) (w : World) (hlm : l.length ≤ 9223372036854775807) (hl : ChAt w lo l) :
    Calls Try.prog 6 #[.slice lo l.length lc, .int .i64 pick] w fun e w' => e = .returned (.bool true) ∧ Below w.heap.size w w' := by
  obtain ⟨hv, hhv⟩ : ∃ hv, hv = heavyC l := ⟨_, rfl⟩
  have hhe := heavyC_any lo lc l w hl hlm
  rw [← hhv] at hhe
  have Hhe := Lib.hid hhe
  have Hl := Lib.hid hl
  clear hhe hhv hl
  cases hv with
  | true =>
    go_enter Try.func6, Try.ntmps6
    go_wp2_with fail
    refine Hhe.out.mono ?_
    rintro e w1 ⟨rfl, w1_b⟩
    go_wp2_with fail
    go_ret
    exact ⟨rfl, w1_b⟩
  | false =>
    go_enter Try.func6, Try.ntmps6
    go_wp2_with fail
    refine Hhe.out.mono ?_
    rintro e w1 ⟨rfl, w1_b⟩
    go_wp2_with fail
    refine calls_name fun wh hwh => ?_
    have hb1 : Below w.heap.size w wh := by rw [hwh]; exact w1_b.trans ((below_allocO w1 _).mono w1_b.size)
    have hia : IAtD wh (some ⟨w1.heap.size, 0, none⟩) hosts3 := by rw [hwh]; exact iat_lit w1 _ rfl hosts3 3 (0, 0)
    clear hwh
    refine (played_any (some ⟨w1.heap.size, 0, none⟩) 3 hosts3 lo lc l wh (fun h => nomatch h) hia (by decide) (Hl.out.grow hb1) hlm).mono ?_
    intro e w2 hp
    obtain ⟨p, g, zc, b, c', p2, g2, zc2, b2, c2', rfl, hS⟩ := play_yes hp ok3
    have HI := Lib.hid (play_inv ok3 l)
    obtain ⟨m, hm⟩ : ∃ m, m = playM hosts3 l := ⟨_, rfl⟩
    rw [← hm] at hS HI
    have S2 := Lib.hid hS
    have hlen := HI.out.len
    have hpos := HI.out.pos
    obtain ⟨pl, n0, n1, n2, -, -⟩ := dir_cells S2.out.swap2.head
    obtain ⟨n, hn⟩ : ∃ n, n = m.zs.length := ⟨_, rfl⟩
    rw [← hn] at hlen hpos n2
    have Hn := Lib.hid hn
    clear hm hS hp hia w1_b Hhe hn
    go_wp2_with fail
    obtain ⟨q, hbq, hq16⟩ := bits_mask16 pick
    obtain ⟨j, hj⟩ : ∃ j : Nat, j = q % n := ⟨_, rfl⟩
    have hjn : j < n := hj ▸ Nat.mod_lt _ hpos
    have hrem : ((q : Int) % (n : Int)) = j := by rw [hj]; rfl
    have hrem2 : ((q : Int).tmod (n : Int)) = j := by rw [Int.tmod_eq_emod_of_nonneg (by omega)]; exact hrem
    have hn0 : ¬ (n : Int) = 0 := by omega
    have hn1 : ¬ n = 0 := by omega
    have hrem3 : q % n = j := hj.symm
    have Hj := Lib.hid hj
    clear hj
    obtain ⟨z, hz⟩ : ∃ z, m.zs[j]? = some z := ⟨_, List.getElem?_eq_getElem (by rw [← Hn.out]; exact hjn)⟩
    obtain ⟨f0, f1, f2, f3, f4, f5, f6, f7, f8⟩ := S2.out.swap2.head.2.1.at.nine j (by rw [← Hn.out]; exact hjn) z ((List.getElem?_eq_some_iff.1 hz).2).symm
    have Hz := Lib.hid hz
    have hj63 : (j : Int) < (n : Int) := by omega
    have hj0 : (0 : Int) ≤ j := by omega
    clear hz
    obtain ⟨wo, rfl⟩ : ∃ wo : World, wo = w2 := ⟨_, rfl⟩
    have hwo := S2.out.b
    have sg2 : g2 < wo.heap.size := S2.out.swap2.head.2.1.facts.2.1
    go_region_held3 (fun W => Below wo.heap.size wo W ∧ ∀ b o, b < wo.heap.size → W.cell? ⟨b, o, none⟩ = wo.cell? ⟨b, o, none⟩) (first | exact stay_drew _ | exact stay_next (by assumption) (by assumption) | exact stay_mk (by repeat (first | with_reducible exact Below.refl _ _ | with_reducible exact stay_below (by assumption) | with_reducible refine Below.drew ?_ | with_reducible refine Below.alloc ?_ (by first | omega | (simp; done) | (simp; omega) | (simp at *; omega)) _ | with_reducible refine Below.setCell ?_ (by first | omega | (simp; done) | (simp; omega) | (simp at *; omega)) _ | with_reducible refine Below.trans ?_ (Below.mono (by assumption) (by first | omega | (simp; done) | (simp; omega) | (simp at *; omega)))))) (fail)
    go_wp2_with fail
    have Hhi : Hid (∀ n ∈ hosts3, 1 ≤ n ∧ n ≤ 1048576) := Lib.hid (hostsB_in ok3).1
    obtain ⟨N, hN⟩ : ∃ N, N = wo.heap.size + 1 := ⟨_, rfl⟩
    refine calls_name fun wa hwa => ?_
    have S3 : Hid (St wh wa [thDir 76 wh.heap.size p g zc m (some ⟨b, 0, none⟩) hosts3.length c', thInts wh.heap.size b c' hosts3, thDir 49 wh.heap.size p2 g2 zc2 m (some ⟨b2, 0, none⟩) hosts3.length c2', thInts wh.heap.size b2 c2' hosts3, thObj N (.cells #[.int .i64 4, .int .i64 z.id, .int .i64 z.epoch, .int .i64 0, .string ⟨#[]⟩] 34 (0, 0))]) := by
      have h1 := (S2.out.grow (below_allocO wo (.cells (znV z).toArray 39))).objN (.cells #[.int .i64 4, .int .i64 z.id, .int .i64 z.epoch, .int .i64 0, .string ⟨#[]⟩] 34) N (by rw [hN]; simp)
      have h2 := h1.grow (Below.refl _ _).drew
      rw [hwa]
      exact Lib.hid ((((h2.pull (A := [_, _, _, _])).pull (A := [_, _, _, _])).pull (A := [_, _, _, _])).pull (A := [_, _, _, _]))
    rw [← hN]
    clear hwa hN S2 f0 f1 f2 f3 f4 f5 f6 f7 f8 pl n0 n1 n2 hwo sg2 hrem hrem2 hrem3 hbq
    obtain ⟨r, hr⟩ : ∃ r, r = applyM hosts3 m ⟨4, z.id, z.epoch, 0, z0⟩ := ⟨_, rfl⟩
    refine (apply_at S3.out HI.out (by decide) ⟨4, z.id, z.epoch, 0, z0⟩ r hr.symm).mono ?_
    rintro e w3 ⟨g3, zc3, rfl, hS⟩
    have S4 := Lib.hid hS
    have HR := Lib.hid hr
    clear hS S3 hr
    obtain ⟨cl, cc, cf⟩ := S4.out.cells (b := N) (List.mem_of_getElem? (i := 4) rfl)
    have k0 : w3.cell? ⟨N, 0, none⟩ = some (.int .i64 4) := cc 0
    have k1 : w3.cell? ⟨N, 1, none⟩ = some (.int .i64 z.id) := cc 1
    have k2 : w3.cell? ⟨N, 2, none⟩ = some (.int .i64 z.epoch) := cc 2
    have k3 : w3.cell? ⟨N, 3, none⟩ = some (.int .i64 0) := cc 3
    have k4 : w3.cell? ⟨N, 4, none⟩ = some (.string ⟨#[]⟩) := cc 4
    clear cc cf
    cases r with
    | none =>
      go_wp2_with fail
      have S5 := Lib.hid (S4.out.swap2)
      refine (rapply_any S5.out HI.out S5.out.iat (by decide) Hhi.out ⟨4, z.id, z.epoch, 0, z0⟩).mono ?_
      rw [← HR.out]
      rintro e w4 ⟨g4, zc4, rfl, hS⟩
      have S6 := Lib.hid hS
      clear hS S5 S4 k0 k1 k2 k3 k4
      go_wp2_with fail
      refine (known_any _).mono ?_
      rintro e w5 ⟨rfl, hb5⟩
      have S7 := Lib.hid (S6.out.grow hb5)
      clear hb5 S6
      go_wp2_with fail
      go_ret
      exact ⟨rfl, hb1.trans (S7.out.b.mono hb1.size)⟩
    | some m1 =>
      have hS : Hid (St wh w3 (thDir 76 wh.heap.size p g3 zc3 m1 (some ⟨b, 0, none⟩) hosts3.length c' :: thInts wh.heap.size b c' hosts3 :: [thDir 49 wh.heap.size p2 g2 zc2 m (some ⟨b2, 0, none⟩) hosts3.length c2', thInts wh.heap.size b2 c2' hosts3, thObj N (.cells #[.int .i64 4, .int .i64 z.id, .int .i64 z.epoch, .int .i64 0, .string ⟨#[]⟩] 34 (0, 0))])) := S4
      have HI1 := Lib.hid (apply_inv Hhi.out HI.out HR.out.symm)
      have HL4 := Lib.hid (once_late Hhi.out HI.out Hz.out HR.out.symm 4 (.inl rfl))
      have HL5 := Lib.hid (once_late Hhi.out HI.out Hz.out HR.out.symm 5 (.inr rfl))
      clear S4
      go_wp2_with fail
      refine (apply_at hS.out HI1.out (by decide) ⟨4, z.id, z.epoch, 0, z0⟩ none HL4.out).mono ?_
      rintro e w4 ⟨g4, zc4, rfl, hS4⟩
      have S5 : Hid (St wh w4 (thDir 76 wh.heap.size p g4 zc4 m1 (some ⟨b, 0, none⟩) hosts3.length c' :: thInts wh.heap.size b c' hosts3 :: [thDir 49 wh.heap.size p2 g2 zc2 m (some ⟨b2, 0, none⟩) hosts3.length c2', thInts wh.heap.size b2 c2' hosts3, thObj N (.cells #[.int .i64 4, .int .i64 z.id, .int .i64 z.epoch, .int .i64 0, .string ⟨#[]⟩] 34 (0, 0))])) := hS4
      clear hS4 hS k0 k1 k2 k3 k4
      obtain ⟨cl, cc, cf⟩ := S5.out.cells (b := N) (List.mem_of_getElem? (i := 4) rfl)
      have k0 : w4.cell? ⟨N, 0, none⟩ = some (.int .i64 4) := cc 0
      have k1 : w4.cell? ⟨N, 1, none⟩ = some (.int .i64 z.id) := cc 1
      have k2 : w4.cell? ⟨N, 2, none⟩ = some (.int .i64 z.epoch) := cc 2
      have k3 : w4.cell? ⟨N, 3, none⟩ = some (.int .i64 0) := cc 3
      have k4 : w4.cell? ⟨N, 4, none⟩ = some (.string ⟨#[]⟩) := cc 4
      have kf := cf 0
      have kN : wh.heap.size ≤ N := (S5.out.t.lts (thObj N (.cells #[.int .i64 4, .int .i64 z.id, .int .i64 z.epoch, .int .i64 0, .string ⟨#[]⟩] 34 (0, 0))) (by simp) N rfl).2
      have S6 := Lib.hid (St.lose (S5.out.pull (A := [_, _, _, _])) (Keeps.set w4 ⟨N, 0, none⟩ (.int .i64 5)))
      clear cc cf S5
      go_wp2_with fail
      refine (apply_at S6.out HI1.out (by decide) ⟨5, z.id, z.epoch, 0, z0⟩ none HL5.out).mono ?_
      rintro e w5 ⟨g5, zc5, rfl, hS5⟩
      have S7 := Lib.hid hS5
      clear hS5 S6 k0 k1 k2 k3 k4
      go_wp2_with fail
      refine (known_any _).mono ?_
      rintro e w6 ⟨rfl, hb6⟩
      have S8 := Lib.hid (S7.out.grow hb6)
      clear hb6 S7
      go_wp2_with fail
      go_ret
      exact ⟨rfl, hb1.trans (S8.out.b.mono hb1.size)⟩
namespace DirOnceLift
open Go.ChangeShapes Go.WideShapes Go.ChangeAt Go.RowKit Go.Joins Go.Deep
open Go.ChangeMaps (open_string shut_string)

theorem own : ownKnob Try.prog.godebug = none := by kernel_rfl
theorem laidOut : laidOutB Try.prog = true := by kernel_rfl

set_option maxHeartbeats 1000000 in
set_option maxRecDepth 100000 in
theorem lifted (os : Os) (started : os.Started) (H : Type) (enc : TypeId × Value → H) :
    ReturnsInHanded {} Try.checked os 6 .any (Rows.dirOnceSpec.pre6 enc Try.prog Try.f6 Rows.dirOnceRow.domain false) (Rows.dirOnceSpec.post enc Try.prog Try.f6 false true false false) := by
  refine returnsInHanded_of_change (C := Try.checked) own started (by kernel_rfl) Try.func6
    (ChangeSpec.witness6 (enc := enc) (C := Try.checked) false ⟨#[], #[.slice none 0 0, .int .i64 0], []⟩ 8 (by kernel_rfl) (by kernel_rfl) (by kernel_rfl) (by kernel_rfl)) ?_
  intro W base args ds gs before hval0 hW hcnd _
  have hval : ∀ (j : Nat) t v, Try.f6.params[j]? = some t → args[j]? = some v → Value.okWide Try.prog W .any base t v := hval0
  have hW' := hW
  obtain ⟨p, q, hA0, hV, rfl, hfz, hnd⟩ := hW
  have hA : DataW.TrodAll enc Try.prog W 0 (fun _ => true) true Try.f6.params.toList args.toList ds p := hA0
  rw [Try.params6] at hA hval
  obtain ⟨v0, vs0, d0, ds0, p0, q0, hargs, rfl, rfl, h0, r0⟩ := trodAll_cons hA
  obtain ⟨v1, vs1, d1, ds1, p1, q1, rfl, rfl, rfl, h1, r1⟩ := trodAll_cons r0
  obtain ⟨rfl, rfl, rfl⟩ := trodAll_nil r1
  obtain rfl : args = #[v0, v1] := by cases args; simp_all
  obtain ⟨rfl, rfl⟩ := trodVars_none hV
  have k0 := h0
  have lt0 : ∀ x ∈ p0, x.block < W.heap.size := by obtain ⟨m, hm⟩ := k0; exact DataW.trod_lt m _ _ _ hm
  have k1 := h1
  have lt1 : ∀ x ∈ p1, x.block < W.heap.size := by obtain ⟨m, hm⟩ := k1; exact DataW.trod_lt m _ _ _ hm
  have post : ∀ e W', e = Ending.returned (.bool true) → Below W.heap.size W W' → ∃ v, e = .returned v ∧ Rows.dirOnceSpec.post enc Try.prog Try.f6 false true false false W #[v0, v1] v W' := by
    intro e W' he bel
    subst he
    exact ⟨_, rfl, _, _, _, [], _, [], hW', trodAll_mk1 (shut_bool Try.underlying4 _), (trodAll_cons_mk (Below.trod laidOut (by kernel_rfl) (of_decide_eq_true (by kernel_rfl)) k0 bel lt0) (trodAll_cons_mk (Below.trod laidOut (by kernel_rfl) (of_decide_eq_true (by kernel_rfl)) k1 bel lt1) trodAll_mk0)), rfl, bel.frame _, fun h => by cases h⟩
  clear hW' hcnd hfz hnd hA0 hA hval0
  obtain ⟨ao, cap, l, rfl, hm, hr⟩ := open_chs (okWide_slice Try.underlying22 (hval 0 22 v0 rfl rfl)) h0
  obtain ⟨x, rfl⟩ := open_intO (hval 1 3 v1 rfl rfl)
  exact (once_walk ao cap l x W hm hr).mono fun e W' ⟨he, bel⟩ => post e W' he bel

theorem over : Rows.dirOnceRow.holds Try.pinned (OpenSpec.ofChange Rows.dirOnceSpec) :=
  OpenClaim.holds_of_wide 6 Try.f6 rfl rfl rfl rfl rfl rfl rfl ⟨rfl, rfl, rfl, rfl, rfl⟩ rfl rfl rfl rfl rfl (by kernel_rfl) Try.func6 (by kernel_rfl)
    (of_decide_eq_true (by kernel_rfl)) (by unfold Func.isWrapper; first | (rw [if_pos (by decide +kernel)]; kernel_rfl) | (rw [if_neg (by decide +kernel)]; exact ⟨rfl, rfl⟩))
    (fun os started H enc _ => lifted os started H enc)
end DirOnceLift

/-- The statement. -/
theorem dirOnce_holds : Rows.DirOnceSaid := DirOnceLift.over
#print axioms dirOnce_holds
end Go.Proofs.Ytobnibdeimiinaa
