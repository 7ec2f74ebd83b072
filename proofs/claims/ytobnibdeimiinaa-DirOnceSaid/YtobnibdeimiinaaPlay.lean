/- The laws' played: changes, in both. -/
import Derived.Test.YtobnibdeimiinaaPlM
namespace Go.Proofs.Ytobnibdeimiinaa
open Go.RowKit

set_option maxRecDepth 20000 in
set_option maxHeartbeats 4000000 in
theorem played_any (ao : Option Addr) (hc : Nat) (hosts : List Int) (lo : Option Addr) (lc : Nat) (l : List Ch) (w : World) (h0 : ao = none → hosts.length = 0 ∧ hc = 0) (ha : IAtD w ao hosts) (hhm : hosts.length ≤ 1000) (hl : ChAt w lo l) (hlm : l.length ≤ 9223372036854775807) :
    Calls Try.prog 19 #[.slice ao hosts.length hc, .slice lo l.length lc] w (PlayPost w hosts l) := by
  have H0 := Lib.hid h0
  have Ha := Lib.hid ha
  have Hhm := Lib.hid hhm
  have Hl := Lib.hid hl
  obtain ⟨i0, hi, hz0, hz1, hz2⟩ := info_parts intInfo
  have Hin : Hid (∀ (w' : World), Below w.heap.size w w' → ∀ ad, ao = some ad → ∀ j u, (hosts.map (Value.int .i64))[j]? = some u → w'.cell? (ad.add j) = some u) := by
    intro w' hb' ad e j u hu
    subst e
    obtain ⟨hj, hu'⟩ := List.getElem?_eq_some_iff.1 hu
    rw [List.length_map] at hj
    obtain ⟨b, off, e, hb, hcell⟩ := Ha.out (by omega)
    obtain rfl := Option.some.inj e
    rw [add_none, hb'.cell (p := ⟨b, _, none⟩) hb, hcell j hj, ← hu']
    simp
  have Hone : Hid (∀ u ∈ hosts.map (Value.int .i64), u.oneCell' = true) := Lib.hid (by intro u hu; obtain ⟨x, -, rfl⟩ := List.mem_map.1 hu; rfl)
  obtain ⟨n, hn⟩ : ∃ n, n = hosts.length := ⟨_, rfl⟩
  have Hll : Hid ((hosts.map (Value.int .i64)).length = n * 1) := by rw [hn]; exact Lib.hid (by simp)
  have Hn := Lib.hid hn
  obtain ⟨ok, hok⟩ : ∃ ok, ok = hostsB hosts := ⟨_, rfl⟩
  have Hok := Lib.hid hok
  rw [← hn] at hhm ⊢ H0
  clear h0 ha hl hn hok
  go_enter Try.func19, Try.ntmps19
  go_wp2_with (at_builtin; go_must (refine wpList_append_any _ rfl (.tmp 14) (.tmp 15) 43 rfl w.heap.size 3 i0 (.int .i64 0) 1 8 Try.underlying43 hi hz0 hz1 hz2 rfl (by decide) _ 0 [] rfl (owns_emptyAt _ w.heap.size rfl w.heap.size (Nat.le_refl _) 3 1) ao n hc (hosts.map (.int .i64)) rfl H0.out Hll.out (Hin.out _ ((Below.refl _ _).alloc (Nat.le_refl _) _)) Hone.out (by unfold maxLen; omega) (by omega) (by simp) ?_))
  intro v w1 hown hgrow
  have w1_b : Below w.heap.size w w1 := below_grown ((Below.refl _ _).alloc (Nat.le_refl _) _) (by simp) hgrow (fun k hk => by simp [Value.ownBlock] at hk; omega)
  obtain ⟨ao1, c1, rfl, hia⟩ := ints_any (l := hosts) (by rw [← Hn.out]; exact hown)
  have Hia := Lib.hid hia
  have S1 := Lib.hid ((St.start w).grow w1_b)
  clear hown hgrow hia
  rw [← Hn.out]
  go_wp2_with fail
  have hnew := new_any S1.out ao1 c1 hosts Hia.out Hhm.out
  rw [← Hn.out] at hnew
  refine hnew.mono ?_
  clear hnew
  cases ok with
  | false =>
    intro e w2 hpost
    obtain ⟨rfl, hS⟩ := newPost_no hpost Hok.out
    clear hpost
    have S2 := Lib.hid hS
    clear hS
    go_wp2_with fail
    have hrn := rnew_any S2.out ao hc hosts (Ha.out.grow S2.out.b) Hhm.out
    rw [← Hn.out] at hrn
    refine hrn.mono ?_
    clear hrn
    intro e w3 hpost
    obtain ⟨rfl, hS⟩ := newPost_no hpost Hok.out
    clear hpost
    have S3 := Lib.hid hS
    clear hS
    go_wp2_with fail
    go_loopw [11] (fun s wr => s = .int .i64 0 ∧ wr = w3) (fun s _ => 0)
    case atStart => exact ⟨rfl, rfl⟩
    case round =>
      obtain ⟨rfl, rfl⟩ := hrel
      go_wp2_with fail
      all_goals
        (refine wp_region_gr (by kernel_rfl) (by kernel_rfl) ?_; (repeat (go_big_quiet_step (fail))); refine wpQuiet_nil ?_; intro _ hw'; obtain ⟨g1, hw''⟩ := hw'; subst hw'')
        go_wp2_with fail
        go_ret3
        unfold PlayPost
        rw [← Hok.out, if_neg (by decide)]
        exact ⟨rfl, (S3.out.grow (gr_below wr g1)).b⟩
  | true =>
    intro e w2 hpost
    obtain ⟨p, g, zc, b, c', rfl, hS⟩ := newPost_yes hpost Hok.out
    clear hpost
    have S2 := Lib.hid hS
    clear hS
    go_wp2_with fail
    have hrn := rnew_any S2.out ao hc hosts (Ha.out.grow S2.out.b) Hhm.out
    rw [← Hn.out] at hrn
    refine hrn.mono ?_
    clear hrn
    intro e w3 hpost
    obtain ⟨p2, g2, zc2, b2, c2', rfl, hS⟩ := newPost_yes hpost Hok.out
    clear hpost
    rw [Hn.out] at hS
    have S3 := Lib.hid hS.swap2
    clear hS
    go_wp2_with fail
    have Hhi : Hid (∀ n ∈ hosts, 1 ≤ n ∧ n ≤ 1048576) := Lib.hid (hostsB_in Hok.out.symm).1
    go_loopw [11] (fun s wr => ∃ i : Nat, ∃ m : Mp, s = .int .i64 i ∧ i ≤ l.length ∧ i ≤ 100 ∧ Hid (m = (l.take i).foldl (stepM hosts) (firstM (hosts.getD 0 0))) ∧ Hid (Inv m) ∧ Hid (∃ g zc g2 zc2, St w wr (Two w p g zc b c' p2 g2 zc2 b2 c2' hosts m m))) (fun s _ => l.length - (intOf s).toNat)
    case atStart => exact ⟨0, firstM (hosts.getD 0 0), rfl, by omega, by omega, Lib.hid rfl, Lib.hid (first_ok Hok.out.symm), Lib.hid ⟨g, zc, g2, zc2, S3.out⟩⟩
    case round =>
      obtain ⟨i, m, rfl, hi1, hi2, Hm, HI, hS⟩ := hrel
      obtain ⟨g0, zc0, g20, zc20, hS⟩ := hS.out
      have S4 := Lib.hid hS
      clear hS S1 S2 S3
      by_cases hgo : i < l.length ∧ i < 100
      · obtain ⟨hlt, h100⟩ := hgo
        obtain ⟨bb, off, rfl, hbb, hr⟩ := Hl.out (by omega)
        obtain ⟨c, hcc⟩ : ∃ c, c = l[i] := ⟨_, rfl⟩
        have hcs : ChCells w bb off i c := by rw [hcc]; exact hr i hlt
        have Hcs := Lib.hid hcs
        obtain ⟨r, hr2⟩ : ∃ r, r = applyM hosts m c := ⟨_, rfl⟩
        have Hcc := Lib.hid hcc
        have Hr := Lib.hid hr2
        have e0 : decide ((i : Int) < 100) = true := by rw [decide_eq_true_eq]; omega
        have hbb4 : bb < wr.heap.size := Nat.lt_of_lt_of_le hbb S4.out.b.size
        obtain ⟨x0, x1, x2, x3, x4⟩ := Hcs.out.grow hbb S4.out.b
        clear hr hcs hcc hr2
        go_wp2_with fail
        refine (would_any S4.out HI.out Hhm.out c).mono ?_
        rw [← Hr.out]
        rintro e w5 ⟨rfl, hS⟩
        have S5 := Lib.hid hS
        have hb5 : bb < w5.heap.size := Nat.lt_of_lt_of_le hbb S5.out.b.size
        obtain ⟨y0, y1, y2, y3, y4⟩ := Hcs.out.grow hbb S5.out.b
        clear hS S4 x0 x1 x2 x3 x4 hbb4
        go_wp2_with fail
        obtain ⟨s, hs⟩ : ∃ s, s = r.isSome := ⟨_, rfl⟩
        rw [← hs]
        have S6 := Lib.hid (S5.out.grow (Below.refl w5.heap.size w5).drew)
        have Hs : Hid (s = (applyM hosts m c).isSome) := by rw [hs, Hr.out]; exact Lib.hid rfl
        have HI2 : Hid (Inv (stepM hosts m c)) := Lib.hid (step_inv Hhi.out HI.out c)
        have HN : Hid (stepM hosts m c = (l.take (i + 1)).foldl (stepM hosts) (firstM (hosts.getD 0 0))) := by
          have := fold_next (stepM hosts) l (firstM (hosts.getD 0 0)) i hlt
          rw [← Hm.out, ← Hcc.out] at this
          exact Lib.hid this.symm
        obtain ⟨m2, hm2⟩ : ∃ m2, m2 = stepM hosts m c := ⟨_, rfl⟩
        rw [← hm2] at HI2 HN
        have Hm2 := Lib.hid hm2
        have e1 : (s != s) = false := by simp
        clear hs S5 hm2 H0 Ha Hin Hone Hll hi hz0 hz1 hz2 Hia hhm
        have hT6 : Hid (ChCells w5.drew bb off i c) := Hcs.out.grow hbb S6.out.b
        refine wp_region_noPanic ?_
        refine wp_region_held (S := fun W => ChCells W bb off i c) (by kernel_rfl) ?_
        change wpAnyH _ _ _ _ _ _ _ _ (World.drew _)
        (refine takeD (i := 0) (v := ?v0) 55 rfl rfl (by kernel_rfl) (by kernel_rfl) (by kernel_rfl) (fun _ _ _ h => h) (Or.inl ⟨by rfl, ?hy0⟩) hT6.out ?rest0; (case hy0 => (intro w hSw; (obtain ⟨t0, t1, t2, t3, t4⟩ := hSw); go_simp; (try with_reducible rfl))); (try simp only [Act.put, List.setIfInBounds_toArray, List.set_cons_zero, List.set_cons_succ]))
        (refine takeD (i := 1) (v := ?v1) 56 rfl rfl (by kernel_rfl) (by kernel_rfl) (by kernel_rfl) (fun _ _ _ h => h) (Or.inl ⟨by rfl, ?hy1⟩) hT6.out ?rest1; (case hy1 => (intro w hSw; (obtain ⟨t0, t1, t2, t3, t4⟩ := hSw); go_simp; (try with_reducible rfl))); (try simp only [Act.put, List.setIfInBounds_toArray, List.set_cons_zero, List.set_cons_succ]))
        (refine takeD (i := 2) (v := ?v2) 57 rfl rfl (by kernel_rfl) (by kernel_rfl) (by kernel_rfl) (fun _ _ _ h => h) (Or.inl ⟨by rfl, ?hy2⟩) hT6.out ?rest2; (case hy2 => (intro w hSw; (obtain ⟨t0, t1, t2, t3, t4⟩ := hSw); go_simp; (try with_reducible rfl))); (try simp only [Act.put, List.setIfInBounds_toArray, List.set_cons_zero, List.set_cons_succ]))
        (refine takeD (i := 3) (v := ?v3) 58 rfl rfl (by kernel_rfl) (by kernel_rfl) (by kernel_rfl) (fun _ _ _ h => h) (Or.inl ⟨by rfl, ?hy3⟩) hT6.out ?rest3; (case hy3 => (intro w hSw; (obtain ⟨t0, t1, t2, t3, t4⟩ := hSw); go_simp; (try with_reducible rfl))); (try simp only [Act.put, List.setIfInBounds_toArray, List.set_cons_zero, List.set_cons_succ]))
        (refine takeD (i := 4) (v := ?v4) 59 rfl rfl (by kernel_rfl) (by kernel_rfl) (by kernel_rfl) (fun _ _ _ h => h) (Or.inl ⟨by rfl, ?hy4⟩) hT6.out ?rest4; (case hy4 => (intro w hSw; (obtain ⟨t0, t1, t2, t3, t4⟩ := hSw); go_simp; (try with_reducible rfl))); (try simp only [Act.put, List.setIfInBounds_toArray, List.set_cons_zero, List.set_cons_succ]))
        (refine takeD (i := 5) (v := ?v5) 60 rfl rfl (by kernel_rfl) (by kernel_rfl) (by kernel_rfl) (fun _ _ _ h => h) (Or.inl ⟨by rfl, ?hy5⟩) hT6.out ?rest5; (case hy5 => (intro w hSw; (obtain ⟨t0, t1, t2, t3, t4⟩ := hSw); go_simp; (try with_reducible rfl))); (try simp only [Act.put, List.setIfInBounds_toArray, List.set_cons_zero, List.set_cons_succ]))
        refine wpAnyH_all (rs := [6]) (by kernel_rfl) (by simp) (fun i' hi' => ?_)
        obtain rfl : i' = 6 := by simpa using hi'
        refine wpOp_step rfl (fun K' hK' => ?_)
        go_simp
        refine (two_would S6.out HI.out Hhm.out Hhi.out c s Hs.out).mono ?_
        rintro e w6 ⟨rfl, hS⟩
        have S7 := Lib.hid hS
        have hT7 : Hid (ChCells w6 bb off i c) := Hcs.out.grow hbb S7.out.b
        refine hK' _ _ ⟨hT7.out, ?_⟩
        clear hK' K' hS S6 hT6
        try simp only [Act.put, List.setIfInBounds_toArray, List.set_cons_zero, List.set_cons_succ]
        (refine takeD (i := 7) (v := ?v7) 62 rfl rfl (by kernel_rfl) (by kernel_rfl) (by kernel_rfl) (fun _ _ _ h => h) (Or.inl ⟨by rfl, ?hy7⟩) hT7.out ?rest7; (case hy7 => (intro w hSw; (obtain ⟨t0, t1, t2, t3, t4⟩ := hSw); go_simp; (try with_reducible rfl))); (try simp only [Act.put, List.setIfInBounds_toArray, List.set_cons_zero, List.set_cons_succ]))
        (refine takeD (i := 8) (v := ?v8) 63 rfl rfl (by kernel_rfl) (by kernel_rfl) (by kernel_rfl) (fun _ _ _ h => h) (Or.inl ⟨by rfl, ?hy8⟩) hT7.out ?rest8; (case hy8 => (intro w hSw; (obtain ⟨t0, t1, t2, t3, t4⟩ := hSw); go_simp; (try with_reducible rfl))); (try simp only [Act.put, List.setIfInBounds_toArray, List.set_cons_zero, List.set_cons_succ]))
        (refine takeD (i := 9) (v := ?v9) 64 rfl rfl (by kernel_rfl) (by kernel_rfl) (by kernel_rfl) (fun _ _ _ h => h) (Or.inl ⟨by rfl, ?hy9⟩) hT7.out ?rest9; (case hy9 => (intro w hSw; (obtain ⟨t0, t1, t2, t3, t4⟩ := hSw); go_simp; (try with_reducible rfl))); (try simp only [Act.put, List.setIfInBounds_toArray, List.set_cons_zero, List.set_cons_succ]))
        (refine takeD (i := 10) (v := ?v10) 65 rfl rfl (by kernel_rfl) (by kernel_rfl) (by kernel_rfl) (fun _ _ _ h => h) (Or.inl ⟨by rfl, ?hy10⟩) hT7.out ?rest10; (case hy10 => (intro w hSw; (obtain ⟨t0, t1, t2, t3, t4⟩ := hSw); go_simp; (try with_reducible rfl))); (try simp only [Act.put, List.setIfInBounds_toArray, List.set_cons_zero, List.set_cons_succ]))
        (refine takeD (i := 11) (v := ?v11) 66 rfl rfl (by kernel_rfl) (by kernel_rfl) (by kernel_rfl) (fun _ _ _ h => h) (Or.inl ⟨by rfl, ?hy11⟩) hT7.out ?rest11; (case hy11 => (intro w hSw; (obtain ⟨t0, t1, t2, t3, t4⟩ := hSw); go_simp; (try with_reducible rfl))); (try simp only [Act.put, List.setIfInBounds_toArray, List.set_cons_zero, List.set_cons_succ]))
        (refine takeD (i := 12) (v := ?v12) 67 rfl rfl (by kernel_rfl) (by kernel_rfl) (by kernel_rfl) (fun _ _ _ h => h) (Or.inl ⟨by rfl, ?hy12⟩) hT7.out ?rest12; (case hy12 => (intro w hSw; (obtain ⟨t0, t1, t2, t3, t4⟩ := hSw); go_simp; (try with_reducible rfl))); (try simp only [Act.put, List.setIfInBounds_toArray, List.set_cons_zero, List.set_cons_succ]))
        (refine takeD (i := 13) (v := ?v13) 68 rfl rfl (by kernel_rfl) (by kernel_rfl) (by kernel_rfl) (fun _ _ _ h => h) (Or.inl ⟨by rfl, ?hy13⟩) hT7.out ?rest13; (case hy13 => (intro w hSw; (obtain ⟨t0, t1, t2, t3, t4⟩ := hSw); go_simp; (try with_reducible rfl))); (try simp only [Act.put, List.setIfInBounds_toArray, List.set_cons_zero, List.set_cons_succ]))
        (refine takeD (i := 14) (v := ?v14) 69 rfl rfl (by kernel_rfl) (by kernel_rfl) (by kernel_rfl) (fun _ _ _ h => h) (Or.inl ⟨by rfl, ?hy14⟩) hT7.out ?rest14; (case hy14 => (intro w hSw; (obtain ⟨t0, t1, t2, t3, t4⟩ := hSw); go_simp; (try with_reducible rfl))); (try simp only [Act.put, List.setIfInBounds_toArray, List.set_cons_zero, List.set_cons_succ]))
        refine wpAnyH_all (rs := [15]) (by kernel_rfl) (by simp) (fun i' hi' => ?_)
        obtain rfl : i' = 15 := by simpa using hi'
        refine wpOp_step rfl (fun K' hK' => ?_)
        go_simp
        refine (two_apply S7.out HI.out Hhm.out c s Hs.out).mono ?_
        rintro e w7 ⟨rfl, g8, zc8, hS⟩
        have S8 := Lib.hid hS
        have hT8 : Hid (ChCells w7 bb off i c) := Hcs.out.grow hbb S8.out.b
        refine hK' _ _ ⟨hT8.out, ?_⟩
        clear hK' K' hS S7 hT7
        try simp only [Act.put, List.setIfInBounds_toArray, List.set_cons_zero, List.set_cons_succ]
        (refine takeD (i := 16) (v := ?v16) 71 rfl rfl (by kernel_rfl) (by kernel_rfl) (by kernel_rfl) (fun _ _ _ h => h) (Or.inl ⟨by rfl, ?hy16⟩) hT8.out ?rest16; (case hy16 => (intro w hSw; (obtain ⟨t0, t1, t2, t3, t4⟩ := hSw); go_simp; (try with_reducible rfl))); (try simp only [Act.put, List.setIfInBounds_toArray, List.set_cons_zero, List.set_cons_succ]))
        (refine takeD (i := 17) (v := ?v17) 72 rfl rfl (by kernel_rfl) (by kernel_rfl) (by kernel_rfl) (fun _ _ _ h => h) (Or.inl ⟨by rfl, ?hy17⟩) hT8.out ?rest17; (case hy17 => (intro w hSw; (obtain ⟨t0, t1, t2, t3, t4⟩ := hSw); go_simp; (try with_reducible rfl))); (try simp only [Act.put, List.setIfInBounds_toArray, List.set_cons_zero, List.set_cons_succ]))
        (refine takeD (i := 18) (v := ?v18) 73 rfl rfl (by kernel_rfl) (by kernel_rfl) (by kernel_rfl) (fun _ _ _ h => h) (Or.inl ⟨by rfl, ?hy18⟩) hT8.out ?rest18; (case hy18 => (intro w hSw; (obtain ⟨t0, t1, t2, t3, t4⟩ := hSw); go_simp; (try with_reducible rfl))); (try simp only [Act.put, List.setIfInBounds_toArray, List.set_cons_zero, List.set_cons_succ]))
        (refine takeD (i := 19) (v := ?v19) 74 rfl rfl (by kernel_rfl) (by kernel_rfl) (by kernel_rfl) (fun _ _ _ h => h) (Or.inl ⟨by rfl, ?hy19⟩) hT8.out ?rest19; (case hy19 => (intro w hSw; (obtain ⟨t0, t1, t2, t3, t4⟩ := hSw); go_simp; (try with_reducible rfl))); (try simp only [Act.put, List.setIfInBounds_toArray, List.set_cons_zero, List.set_cons_succ]))
        (refine takeD (i := 20) (v := ?v20) 75 rfl rfl (by kernel_rfl) (by kernel_rfl) (by kernel_rfl) (fun _ _ _ h => h) (Or.inl ⟨by rfl, ?hy20⟩) hT8.out ?rest20; (case hy20 => (intro w hSw; (obtain ⟨t0, t1, t2, t3, t4⟩ := hSw); go_simp; (try with_reducible rfl))); (try simp only [Act.put, List.setIfInBounds_toArray, List.set_cons_zero, List.set_cons_succ]))
        (refine takeD (i := 21) (v := ?v21) 76 rfl rfl (by kernel_rfl) (by kernel_rfl) (by kernel_rfl) (fun _ _ _ h => h) (Or.inl ⟨by rfl, ?hy21⟩) hT8.out ?rest21; (case hy21 => (intro w hSw; (obtain ⟨t0, t1, t2, t3, t4⟩ := hSw); go_simp; (try with_reducible rfl))); (try simp only [Act.put, List.setIfInBounds_toArray, List.set_cons_zero, List.set_cons_succ]))
        (refine takeD (i := 22) (v := ?v22) 77 rfl rfl (by kernel_rfl) (by kernel_rfl) (by kernel_rfl) (fun _ _ _ h => h) (Or.inl ⟨by rfl, ?hy22⟩) hT8.out ?rest22; (case hy22 => (intro w hSw; (obtain ⟨t0, t1, t2, t3, t4⟩ := hSw); go_simp; (try with_reducible rfl))); (try simp only [Act.put, List.setIfInBounds_toArray, List.set_cons_zero, List.set_cons_succ]))
        (refine takeD (i := 23) (v := ?v23) 78 rfl rfl (by kernel_rfl) (by kernel_rfl) (by kernel_rfl) (fun _ _ _ h => h) (Or.inl ⟨by rfl, ?hy23⟩) hT8.out ?rest23; (case hy23 => (intro w hSw; (obtain ⟨t0, t1, t2, t3, t4⟩ := hSw); go_simp; (try with_reducible rfl))); (try simp only [Act.put, List.setIfInBounds_toArray, List.set_cons_zero, List.set_cons_succ]))
        (refine takeD (i := 24) (v := ?v24) 79 rfl rfl (by kernel_rfl) (by kernel_rfl) (by kernel_rfl) (fun _ _ _ h => h) (Or.inl ⟨by rfl, ?hy24⟩) hT8.out ?rest24; (case hy24 => (intro w hSw; (obtain ⟨t0, t1, t2, t3, t4⟩ := hSw); go_simp; (try with_reducible rfl))); (try simp only [Act.put, List.setIfInBounds_toArray, List.set_cons_zero, List.set_cons_succ]))
        refine wpAnyH_all (rs := [25]) (by kernel_rfl) (by simp) (fun i' hi' => ?_)
        obtain rfl : i' = 25 := by simpa using hi'
        refine wpOp_step rfl (fun K' hK' => ?_)
        go_simp
        refine (two_rapply S8.out HI.out Hhm.out Hhi.out c s Hs.out).mono ?_
        rintro e w8 ⟨rfl, g9, zc9, hS⟩
        rw [← Hm2.out] at hS
        have S9 := Lib.hid hS
        have hT9 : Hid (ChCells w8 bb off i c) := Hcs.out.grow hbb S9.out.b
        refine hK' _ _ ⟨hT9.out, ?_⟩
        clear hK' K' hS S8 hT8
        try simp only [Act.put, List.setIfInBounds_toArray, List.set_cons_zero, List.set_cons_succ]
        (refine takeD (i := 26) (v := ?v26) 81 rfl rfl (by kernel_rfl) (by kernel_rfl) (by kernel_rfl) (fun _ _ _ h => h) (Or.inl ⟨by rfl, ?hy26⟩) hT9.out ?rest26; (case hy26 => (intro w hSw; (obtain ⟨t0, t1, t2, t3, t4⟩ := hSw); go_simp; (try with_reducible rfl))); (try simp only [Act.put, List.setIfInBounds_toArray, List.set_cons_zero, List.set_cons_succ]))
        (refine takeD (i := 27) (v := ?v27) 82 rfl rfl (by kernel_rfl) (by kernel_rfl) (by kernel_rfl) (fun _ _ _ h => h) (Or.inl ⟨by rfl, ?hy27⟩) hT9.out ?rest27; (case hy27 => (intro w hSw; (obtain ⟨t0, t1, t2, t3, t4⟩ := hSw); go_simp; (try with_reducible rfl))); (try simp only [Act.put, List.setIfInBounds_toArray, List.set_cons_zero, List.set_cons_succ]))
        (refine takeD (i := 28) (v := ?v28) 83 rfl rfl (by kernel_rfl) (by kernel_rfl) (by kernel_rfl) (fun _ _ _ h => h) (Or.inl ⟨by rfl, ?hy28⟩) hT9.out ?rest28; (case hy28 => (intro w hSw; (obtain ⟨t0, t1, t2, t3, t4⟩ := hSw); go_simp; (try with_reducible rfl))); (try simp only [Act.put, List.setIfInBounds_toArray, List.set_cons_zero, List.set_cons_succ]))
        (refine takeD (i := 29) (v := ?v29) 84 rfl rfl (by kernel_rfl) (by kernel_rfl) (by kernel_rfl) (fun _ _ _ h => h) (Or.inl ⟨by rfl, ?hy29⟩) hT9.out ?rest29; (case hy29 => (intro w hSw; (obtain ⟨t0, t1, t2, t3, t4⟩ := hSw); go_simp; (try with_reducible rfl))); (try simp only [Act.put, List.setIfInBounds_toArray, List.set_cons_zero, List.set_cons_succ]))
        (refine takeD (i := 31) (v := ?v31) 86 rfl rfl (by kernel_rfl) (by kernel_rfl) (by kernel_rfl) (fun _ _ _ h => h) (Or.inl ⟨by rfl, ?hy31⟩) hT9.out ?rest31; (case hy31 => (intro w hSw; (obtain ⟨t0, t1, t2, t3, t4⟩ := hSw); go_simp; (try with_reducible rfl))); (try simp only [Act.put, List.setIfInBounds_toArray, List.set_cons_zero, List.set_cons_succ]))
        (refine takeD (i := 32) (v := ?v32) 87 rfl rfl (by kernel_rfl) (by kernel_rfl) (by kernel_rfl) (fun _ _ _ h => h) (Or.inl ⟨by rfl, ?hy32⟩) hT9.out ?rest32; (case hy32 => (intro w hSw; (obtain ⟨t0, t1, t2, t3, t4⟩ := hSw); go_simp; (try with_reducible rfl))); (try simp only [Act.put, List.setIfInBounds_toArray, List.set_cons_zero, List.set_cons_succ]))
        (refine takeD (i := 33) (v := ?v33) 88 rfl rfl (by kernel_rfl) (by kernel_rfl) (by kernel_rfl) (fun _ _ _ h => h) (Or.inl ⟨by rfl, ?hy33⟩) hT9.out ?rest33; (case hy33 => (intro w hSw; (obtain ⟨t0, t1, t2, t3, t4⟩ := hSw); go_simp; (try with_reducible rfl))); (try simp only [Act.put, List.setIfInBounds_toArray, List.set_cons_zero, List.set_cons_succ]))
        refine two_at (n := 3) 85 89 (fun b10 b11 => #[true, true, true, true, true, true, true, true, true, true, true, true, true, true, true, true, true, true, true, true, true, true, true, true, true, true, true, true, true, true, b10, true, true, true, b11, false, false, false]) (MI w (Two w p g8 zc8 b c' p2 g9 zc9 b2 c2' hosts m2 m2) m2 g9 zc9) 30 34 ?hr ?m10 ?m11 (MI.start S9.out) ?h10 ?h11 ?hend
        case hr => intro b10 b11 h; cases b10 <;> cases b11 <;> (first | (exact absurd h (by decide)) | kernel_rfl)
        case m10 => intro b11; rfl
        case m11 => intro b10; rfl
        case h10 =>
          intro vL w9 hI K hK
          cases vL
          all_goals
            simp only [frT, putO, Act.put, List.setIfInBounds_toArray, List.set_cons_zero, List.set_cons_succ] at hK ⊢
            refine wpOp_step rfl (fun K' hK' => ?_)
            go_simp
            refine (map_any hI.s.head HI2.out.pos (Nat.le_trans HI2.out.len (by decide))).mono ?_
            rintro e w10 ⟨ga, ca, rfl, ho, hb⟩
            exact hK' _ _ (hK _ _ (Hcs.out.grow hbb (hI.map ho hb).s.b) (hI.map ho hb))
        case h11 =>
          intro vM w9 hI K hK
          obtain ⟨pl, n0, n1, n2, -, -⟩ := dir_cells hI.s.swap2.head
          cases vM
          all_goals
            simp only [frT, putO, Act.put, List.setIfInBounds_toArray, List.set_cons_zero, List.set_cons_succ] at hK ⊢
            refine wpOp_step rfl (fun K' hK' => ?_)
            go_simp
            exact hK' _ _ (hK _ _ (Hcs.out.grow hbb hI.s.b) hI.load)
        case hend =>
          intro vM vL w9 hI
          obtain ⟨ga, ca, rfl, hza⟩ := hI.mp _ rfl
          obtain rfl := hI.ld _ rfl
          have hmaps := maps_any (k1 := ca) (k2 := zc9) hza hI.s.swap2.head.2.1.at (Nat.le_trans HI2.out.len (by decide)) m2.ver m2.next m2.ver m2.next
          rw [mapsB_same] at hmaps
          simp only [frT, putO, Act.put, List.setIfInBounds_toArray, List.set_cons_zero, List.set_cons_succ]
          refine wpAnyH_all (rs := [35]) (by kernel_rfl) (by simp) (fun i' hi' => ?_)
          obtain rfl : i' = 35 := by simpa using hi'
          refine wpOp_step rfl (fun K' hK' => ?_)
          go_simp
          refine hmaps.mono ?_
          rintro e w10 ⟨rfl, hb10⟩
          have S10 := Lib.hid (hI.s.grow hb10)
          have hT10 : Hid (ChCells w10 bb off i c) := Hcs.out.grow hbb S10.out.b
          refine hK' _ _ ⟨hT10.out, ?_⟩
          clear hK' K' hmaps hza hI hb10 S9 hT9
          try simp only [List.setIfInBounds_toArray, List.set_cons_zero, List.set_cons_succ]
          (refine takeD (i := 36) (v := ?v36) 91 rfl rfl (by kernel_rfl) (by kernel_rfl) (by kernel_rfl) (fun _ _ _ h => h) (Or.inl ⟨by rfl, ?hy36⟩) hT10.out ?rest36; (case hy36 => (intro w hSw; (obtain ⟨t0, t1, t2, t3, t4⟩ := hSw); go_simp; (try with_reducible rfl))); (try simp only [Act.put, List.setIfInBounds_toArray, List.set_cons_zero, List.set_cons_succ]))
          (refine takeD (i := 37) (v := ?v37) 92 rfl rfl (by kernel_rfl) (by kernel_rfl) (by kernel_rfl) (fun _ _ _ h => h) (Or.inl ⟨by rfl, ?hy37⟩) hT10.out ?rest37; (case hy37 => (intro w hSw; (obtain ⟨t0, t1, t2, t3, t4⟩ := hSw); go_simp; (try with_reducible rfl))); (try simp only [Act.put, List.setIfInBounds_toArray, List.set_cons_zero, List.set_cons_succ]))
          refine wpAnyH_done (by kernel_rfl) ?_ _
          refine NoPanic.normal ?_
          go_wp2_with fail
          go_roundw
          case rel => exact ⟨i + 1, m2, by go_num, by omega, by omega, HN, HI2, Lib.hid ⟨g8, zc8, g9, zc9, S10.out⟩⟩
          case measure => simp [intOf]; omega
      · have hmf : Hid (m = playM hosts l) := by
          rw [Hm.out]
          exact Lib.hid (fold_end _ _ _ i hi1 hi2 (fun h => by omega))
        obtain ⟨wo, rfl⟩ : ∃ wo : World, wo = wr := ⟨_, rfl⟩
        obtain ⟨pl, n0, n1, n2, -, -⟩ := dir_cells S4.out.swap2.head
        by_cases hlt : i < l.length
        · have e0 : decide ((i : Int) < 100) = false := by rw [decide_eq_false_iff_not]; omega
          go_wp2_with fail
          (go_region_held3 (fun W => Below wo.heap.size wo W ∧ ∀ b o, b < wo.heap.size → W.cell? ⟨b, o, none⟩ = wo.cell? ⟨b, o, none⟩) (first | exact stay_drew _ | exact stay_next (by assumption) (by assumption) | exact stay_mk (by repeat (first | with_reducible exact Below.refl _ _ | with_reducible exact stay_below (by assumption) | with_reducible refine Below.drew ?_ | with_reducible refine Below.alloc ?_ (by first | omega | (simp; done) | (simp; omega) | (simp at *; omega)) _ | with_reducible refine Below.setCell ?_ (by first | omega | (simp; done) | (simp; omega) | (simp at *; omega)) _ | with_reducible refine Below.trans ?_ (Below.mono (by assumption) (by first | omega | (simp; done) | (simp; omega) | (simp at *; omega)))))) (first | (go_at_call 14; refine (map_any (S4.out.grow (stay_below (by assumption))).head HI.out.pos (Nat.le_trans HI.out.len (by decide))).mono ?_; rintro e W' ⟨ga, ca, rfl, ho, hbw⟩) | (go_at_call 16; refine (maps_same m ho.at (S4.out.grow (stay_below (by assumption))).swap2.head.2.1.at HI.out.len).mono ?_; rintro e W2 ⟨rfl, hbw2⟩) | fail); all_goals ((go_wp2_with fail); go_ret3; unfold PlayPost; rw [← Hok.out, if_pos rfl, ← hmf.out]; exact ⟨p, g0, zc0, b, c', p2, g20, zc20, b2, c2', rfl, S4.out.grow (stay_below (by assumption))⟩))
        · go_wp2_with fail
          (go_region_held3 (fun W => Below wo.heap.size wo W ∧ ∀ b o, b < wo.heap.size → W.cell? ⟨b, o, none⟩ = wo.cell? ⟨b, o, none⟩) (first | exact stay_drew _ | exact stay_next (by assumption) (by assumption) | exact stay_mk (by repeat (first | with_reducible exact Below.refl _ _ | with_reducible exact stay_below (by assumption) | with_reducible refine Below.drew ?_ | with_reducible refine Below.alloc ?_ (by first | omega | (simp; done) | (simp; omega) | (simp at *; omega)) _ | with_reducible refine Below.setCell ?_ (by first | omega | (simp; done) | (simp; omega) | (simp at *; omega)) _ | with_reducible refine Below.trans ?_ (Below.mono (by assumption) (by first | omega | (simp; done) | (simp; omega) | (simp at *; omega)))))) (first | (go_at_call 14; refine (map_any (S4.out.grow (stay_below (by assumption))).head HI.out.pos (Nat.le_trans HI.out.len (by decide))).mono ?_; rintro e W' ⟨ga, ca, rfl, ho, hbw⟩) | (go_at_call 16; refine (maps_same m ho.at (S4.out.grow (stay_below (by assumption))).swap2.head.2.1.at HI.out.len).mono ?_; rintro e W2 ⟨rfl, hbw2⟩) | fail); all_goals ((go_wp2_with fail); go_ret3; unfold PlayPost; rw [← Hok.out, if_pos rfl, ← hmf.out]; exact ⟨p, g0, zc0, b, c', p2, g20, zc20, b2, c2', rfl, S4.out.grow (stay_below (by assumption))⟩))
end Go.Proofs.Ytobnibdeimiinaa
