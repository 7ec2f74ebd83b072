/- DirBytes: any map, and any change, as bytes, and any bytes as these. It holds of all arguments, without a condition. -/
import Derived.Test.YtobnibdeimiinaaOLp
import Derived.Test.YtobnibdeimiinaaDKnown
import Derived.Test.YtobnibdeimiinaaOpenZ
import Derived.Test.YtobnibdeimiinaaRows
namespace Go.Proofs.Ytobnibdeimiinaa.O
open Go.RowKit
set_option maxRecDepth 20000

/-- The program's Decode of a map's own bytes. -/
theorem back_map (m : Mp) (hl : LtB m.zs) (X : List UInt8) (hX : X = encM m) (ver nx : Int) (n : Nat) (hv : ver = m.ver) (hn : nx = m.next) (hnn : n = m.zs.length) (qm : Bool) (hqm : qm = mayM m) (yo : Option Addr) (yc : Nat) (w : World) (h0 : yo = none → X.length = 0 ∧ yc = 0) (ha : BAt w yo X) :
    Calls Try.prog 28 #[.slice yo X.length yc] w fun e w' => Below w.heap.size w w' ∧ ∃ zu zuc uv un, ∃ uk : Nat, ∃ eu : Int, e = .returned (.tuple #[.agg #[.int .i64 uv, .int .i64 un, .slice zu uk zuc], .int .i64 eu]) ∧ (qm = true → uv = ver ∧ un = nx ∧ uk = n ∧ eu = 0 ∧ ZsAt w' zu m.zs) := by
  refine (pdecM_any yo yc X w h0 ha (by rw [hX]; exact encM_length hl)).mono fun e w' h => ?_
  obtain ⟨hb, zo, zc, he, hz⟩ := decM_one h
  refine ⟨hb, zo, zc, _, _, _, _, he, fun hm => ?_⟩
  rw [hqm] at hm
  obtain ⟨g1, g2⟩ := good_enc hm hl.sz
  rw [← hX] at g1 g2
  have e1 : xM X = m := by unfold xM; rw [if_pos g1, g2]
  have e2 : eM X = 0 := by unfold eM; rw [if_pos g1]
  rw [e1] at hz
  rw [e1, e2]
  exact ⟨hv.symm, hn.symm, hnn.symm, rfl, hz⟩
theorem back_change (c : Ch) (kind zone epoch tt : Int) (key : ByteArray) (hc : kind = c.kind ∧ zone = c.zone ∧ epoch = c.epoch ∧ tt = c.tt ∧ key = c.key) (mc : Bool) (hmc : mc = mayC c) (yo : Option Addr) (yc : Nat) (w : World) (h0 : yo = none → (xE c).length = 0 ∧ yc = 0) (ha : BAt w yo (xE c)) :
    Calls Try.prog 32 #[.slice yo (xE c).length yc] w fun e w' => Below w.heap.size w w' ∧ ∃ k1 k2 k3 k4 : Int, ∃ k5 : ByteArray, ∃ ev : Int, e = .returned (.tuple #[.agg #[.int .i64 k1, .int .i64 k2, .int .i64 k3, .int .i64 k4, .string k5], .int .i64 ev]) ∧ (mc = true → k1 = kind ∧ k2 = zone ∧ k3 = epoch ∧ k4 = tt ∧ k5 = key ∧ ev = 0) := by
  refine (pdecC_any yo yc (xE c) w h0 ha (by have := xE_length c; omega)).mono fun e w' h => ?_
  obtain ⟨hb, he⟩ := decC_one h
  refine ⟨hb, _, _, _, _, _, _, he, fun hm => ?_⟩
  rw [hmc] at hm
  obtain ⟨g1, g2⟩ := goodC_enc hm
  have e1 : xE c = encC c := by unfold xE; rw [if_pos hm]
  have e2 : xC (encC c) = c := by unfold xC; rw [if_pos g1, g2]
  have e3 : eC (encC c) = 0 := by unfold eC; rw [if_pos g1]
  obtain ⟨a1, a2, a3, a4, a5⟩ := hc
  rw [e1, e2, e3, a1, a2, a3, a4, a5]
  exact ⟨rfl, rfl, rfl, rfl, rfl, rfl⟩
set_option maxHeartbeats 8000000 in
theorem bytes_walk (ao : Option Addr) (zc : Nat) (m : Mp) (c : Ch) (bo : Option Addr) (bc : Nat) (l : List UInt8) (w : World) (hz : ZsAt w ao m.zs) (hmm : m.zs.length ≤ 9223372036854775807) (h0 : bo = none → l.length = 0 ∧ bc = 0) (hlc : l.length ≤ bc) (hcm : bc ≤ 9223372036854775807) (hb : BAt w bo l) :
    Calls Try.prog 11 #[.agg #[.int .i64 m.ver, .int .i64 m.next, .slice ao m.zs.length zc], .agg #[.int .i64 c.kind, .int .i64 c.zone, .int .i64 c.epoch, .int .i64 c.tt, .string c.key], .slice bo l.length bc] w fun e w' => e = .returned (.bool true) ∧ Below w.heap.size w w' := by
  have Hz := Lib.hid hz
  have H0 := Lib.hid h0
  have Hb := Lib.hid hb
  have Hheavy := Lib.hid (fun (w3 : World) (hbw : Below w.heap.size w w3) => heavyMap_any ao zc m.zs m.ver m.next w3 (Hz.out.grow hbw) hmm)
  have Hpe := Lib.hid (fun (w3 : World) (hbw : Below w.heap.size w w3) (hs : SzB m) => pencM_any ao zc m w3 (Hz.out.grow hbw) hs)
  have Hre := Lib.hid (fun (w3 : World) (hbw : Below w.heap.size w w3) (hs : SzB m) => rencM_any ao zc m w3 (Hz.out.grow hbw) hs)
  have Hrm := Lib.hid (fun (w3 : World) (hbw : Below w.heap.size w w3) (hs : m.zs.length ≤ 1000) => rmay_all ao zc m w3 hs (Hz.out.grow hbw))
  have Hpc := Lib.hid (fun w3 => pencC_any c w3)
  have Hrc := Lib.hid (fun w3 => rencC_any c w3)
  obtain ⟨n, hn⟩ : ∃ n, n = m.zs.length := ⟨_, rfl⟩
  obtain ⟨nx, hnx⟩ : ∃ nx, nx = m.next := ⟨_, rfl⟩
  obtain ⟨ver, hver⟩ : ∃ ver, ver = m.ver := ⟨_, rfl⟩
  obtain ⟨kind, hki⟩ : ∃ kind, kind = c.kind := ⟨_, rfl⟩
  obtain ⟨zone, hzo⟩ : ∃ zone, zone = c.zone := ⟨_, rfl⟩
  obtain ⟨epoch, hep⟩ : ∃ epoch, epoch = c.epoch := ⟨_, rfl⟩
  obtain ⟨tt, htt⟩ : ∃ tt, tt = c.tt := ⟨_, rfl⟩
  obtain ⟨key, hke⟩ : ∃ key, key = c.key := ⟨_, rfl⟩
  rw [← hn, ← hnx, ← hver] at Hheavy Hpe Hre Hrm ⊢
  rw [← hki, ← hzo, ← hep, ← htt, ← hke] at Hpc Hrc ⊢
  rw [← hn] at hmm
  have Hn := Lib.hid hn
  have Hx := Lib.hid hnx
  have Hver := Lib.hid hver
  have Hcc := Lib.hid (⟨hki, hzo, hep, htt, hke⟩ : _ ∧ _ ∧ _ ∧ _ ∧ _)
  clear hz h0 hb hn hnx hver hki hzo hep htt hke
  go_enter Try.func11, Try.ntmps11
  go_wp2_with fail
  have S0 : Hid (St w _ [thObj (w.heap.size + 1) (.cells #[.int .i64 kind, .int .i64 zone, .int .i64 epoch, .int .i64 tt, .string key] 34), thObj w.heap.size (.cells #[.int .i64 ver, .int .i64 nx, .slice ao n zc] 30)]) := ((St.start w).objN (.cells #[.int .i64 ver, .int .i64 nx, .slice ao n zc] 30) w.heap.size rfl).objN (.cells #[.int .i64 kind, .int .i64 zone, .int .i64 epoch, .int .i64 tt, .string key] 34) (w.heap.size + 1) (by simp)
  refine (Hheavy.out _ S0.out.b).mono ?_
  rintro e w1 ⟨hb1, he⟩
  have S1 := Lib.hid (S0.out.grow hb1)
  clear hb1 S0
  obtain ⟨c1, c2, -⟩ := S1.out.cellsN 0 rfl
  obtain ⟨d1, d2, -⟩ := S1.out.cellsN 1 rfl
  have w1_b := S1.out.b
  rcases he with rfl | ⟨rfl, hlt⟩
  · go_wp2_with fail
    go_ret
    exact ⟨rfl, w1_b⟩
  have Hlt := Lib.hid hlt
  clear hlt
  rcases Bool.eq_false_or_eq_true (decide ((60 : Int) < key.size)) with t1 | t1
  · go_wp2_with fail
    go_ret
    exact ⟨rfl, w1_b⟩
  rcases Bool.eq_false_or_eq_true (decide ((1500 : Int) < l.length)) with t2 | t2
  · go_wp2_with fail
    go_ret
    exact ⟨rfl, w1_b⟩
  have hl15 : l.length ≤ 1500 := by rw [decide_eq_false_iff_not] at t2; omega
  go_wp2_with fail
  clear t1 t2
  refine wp_name fun wa hwa => ?_
  subst hwa
  obtain ⟨wd, hwd⟩ : ∃ wd, wd = wa.drew := ⟨_, rfl⟩
  have S2 : Hid (St w wd [thObj (w.heap.size + 1) (.cells #[.int .i64 kind, .int .i64 zone, .int .i64 epoch, .int .i64 tt, .string key] 34), thObj w.heap.size (.cells #[.int .i64 ver, .int .i64 nx, .slice ao n zc] 30)]) := by rw [hwd]; exact Lib.hid (S1.out.grow (Below.refl _ _).drew)
  have Hsu : Hid (∀ w', Below wd.heap.size wd w' → (fun W : World => W.cell? ⟨w.heap.size, 0, none⟩ = some (.int .i64 ver) ∧ W.cell? ⟨w.heap.size, 1, none⟩ = some (.int .i64 nx) ∧ W.cell? ⟨w.heap.size, 2, none⟩ = some (.slice ao n zc) ∧ w.heap.size < W.heap.size) w') := Lib.hid fun w' hb => by
    obtain ⟨c1, c2, -⟩ := (S2.out.grow hb).cellsN 1 rfl
    exact ⟨c2 0, c2 1, c2 2, c1⟩
  have HC := Lib.hid (Hsu.out wd (Below.refl _ _))
  obtain ⟨X, hX⟩ : ∃ X, X = encM m := ⟨_, rfl⟩
  have hXl : X.length ≤ 18000 := by rw [hX]; exact encM_length Hlt.out
  rw [← hX] at Hpe Hre
  have HX := Lib.hid hX
  have Hwd := Lib.hid S2.out.b
  have hpd := fun (w3 : World) (hbw : Below w.heap.size w w3) => (pdecM_any bo bc l w3 H0.out (Hb.out.below hbw) (by omega)).mono (fun e w' h => decM_one h)
  have hrd := fun (w3 : World) (hbw : Below w.heap.size w w3) => (rdecM_any bo bc l w3 H0.out hlc hcm (Hb.out.below hbw) (by omega)).mono (fun e w' h => decM_one h)
  obtain ⟨xm, hxm⟩ : ∃ xm, xm = xM l := ⟨_, rfl⟩
  obtain ⟨ex, hex⟩ : ∃ ex, ex = eM l := ⟨_, rfl⟩
  rw [← hxm, ← hex] at hpd hrd
  have Hpd := Lib.hid hpd
  have Hrd := Lib.hid hrd
  have hpdc := fun (w3 : World) (hbw : Below w.heap.size w w3) => (pdecC_any bo bc l w3 H0.out (Hb.out.below hbw) (by omega)).mono (fun e w' h => decC_one h)
  have hrdc := fun (w3 : World) (hbw : Below w.heap.size w w3) => (rdecC_any bo bc l w3 H0.out hlc hcm (Hb.out.below hbw) (by omega)).mono (fun e w' h => decC_one h)
  obtain ⟨xg, hxc⟩ : ∃ xg, xg = xC l := ⟨_, rfl⟩
  obtain ⟨ec, hec⟩ : ∃ ec, ec = eC l := ⟨_, rfl⟩
  rw [← hxc, ← hec] at hpdc hrdc
  have Hpdc := Lib.hid hpdc
  have Hrdc := Lib.hid hrdc
  have hpe := fun w3 => (Hpc.out w3).mono (fun e w' h => encC_one h)
  have hre := fun w3 => (Hrc.out w3).mono (fun e w' h => encC_one h)
  obtain ⟨mc, hmc⟩ : ∃ mc, mc = mayC c := ⟨_, rfl⟩
  have hbc := fun yo yc w3 h0 ha => back_change c kind zone epoch tt key Hcc.out mc hmc yo yc w3 h0 ha
  have hxel := xE_length c
  obtain ⟨xe, hxe⟩ : ∃ xe, xe = xE c := ⟨_, rfl⟩
  obtain ⟨ee, hee⟩ : ∃ ee, ee = eE c := ⟨_, rfl⟩
  rw [← hxe, ← hee] at hpe hre
  rw [← hxe] at hbc hxel
  have Hpec := Lib.hid hpe
  have Hrec := Lib.hid hre
  have Hbc := Lib.hid hbc
  have Hee : Hid ((mc = true → ee = 0) ∧ (mc = false → ee = 1)) := by rw [hee, hmc]; unfold eE; exact Lib.hid ⟨fun h => by rw [if_pos h], fun h => by rw [if_neg (by rw [h]; simp)]⟩
  have hxml : xm.zs.length ≤ 100000 := by
    rw [hxm]
    have := xM_length l
    omega
  obtain ⟨qm, hqm⟩ : ∃ qm, qm = mayM m := ⟨_, rfl⟩
  rw [← hqm] at Hrm
  have hbm := fun yo yc w3 h0 ha => back_map m Hlt.out X hX ver nx n Hver.out Hx.out Hn.out qm hqm yo yc w3 h0 ha
  have Hbm := Lib.hid hbm
  clear hpd hrd hpdc hrdc hpe hre hbc hxm hex hxc hec hxe hee hbm hqm hmc Hpc Hrc
  clear hX
  refine wp_region_noPanic ?_
  refine wp_region_held (S := (fun W : World => W.cell? ⟨w.heap.size, 0, none⟩ = some (.int .i64 ver) ∧ W.cell? ⟨w.heap.size, 1, none⟩ = some (.int .i64 nx) ∧ W.cell? ⟨w.heap.size, 2, none⟩ = some (.slice ao n zc) ∧ w.heap.size < W.heap.size)) (by kernel_rfl) ?_
  change wpAnyH _ _ _ _ _ _ _ _ (World.drew _)
  rw [← hwd]
  clear hwd S1 c1 c2 d1 d2 w1_b
  (refine takeD (i := 0) (v := ?v0x36) 36 rfl rfl (by kernel_rfl) (by kernel_rfl) (by kernel_rfl) (fun _ _ _ h => h) (Or.inl ⟨by rfl, ?hy0x36⟩) HC.out ?rest0x36; (case hy0x36 => (intro w hSw; (obtain ⟨t0, t1, t2, t3⟩ := hSw); go_simp; (try with_reducible rfl))); (try simp only [Act.put, List.setIfInBounds_toArray, List.set_cons_zero, List.set_cons_succ]))
  (refine takeD (i := 3) (v := ?v3x39) 39 rfl rfl (by kernel_rfl) (by kernel_rfl) (by kernel_rfl) (fun _ _ _ h => h) (Or.inl ⟨by rfl, ?hy3x39⟩) HC.out ?rest3x39; (case hy3x39 => (intro w hSw; (obtain ⟨t0, t1, t2, t3⟩ := hSw); go_simp; (try with_reducible rfl))); (try simp only [Act.put, List.setIfInBounds_toArray, List.set_cons_zero, List.set_cons_succ]))
  (refine wpAnyH_all (rs := [1]) (by kernel_rfl) (by simp) (fun i' hi' => ?_); (obtain rfl : i' = 1 := by simpa using hi'); clear hi'; (refine wpOp_step rfl (fun K' hK' => ?_)))
  go_simp
  refine (Hpe.out wd Hwd.out Hlt.out.sz).mono ?_
  rintro e w2 ⟨yo, yc, rfl, ho, hb2⟩
  have Ho := Lib.hid ho
  have Hb2 := Lib.hid hb2
  have hcv := conv_str Ho.out.at yc
  (refine hK' _ _ ⟨Hsu.out _ (Hb2.out), ?_⟩; clear hK' K'; try simp only [Act.put, List.setIfInBounds_toArray, List.set_cons_zero, List.set_cons_succ])
  clear ho hb2
  (refine wpAnyH_all (rs := [2, 4]) (by kernel_rfl) (by simp) (fun i' hi' => ?_); (have hi2 : i' = 2 ∨ i' = 4 := by simpa using hi'); clear hi'; (rcases hi2 with rfl | rfl))
  case' inl =>
    refine wpOp_step rfl (fun K' hK' => ?_)
    go_simp
    (refine hK' _ _ ⟨Hsu.out _ (Hb2.out), ?_⟩; clear hK' K'; try simp only [Act.put, List.setIfInBounds_toArray, List.set_cons_zero, List.set_cons_succ])
    clear hcv
    (refine wpAnyH_all (rs := [4]) (by kernel_rfl) (by simp) (fun i' hi' => ?_); (obtain rfl : i' = 4 := by simpa using hi'); clear hi'; (refine wpOp_step rfl (fun K' hK' => ?_)))
    go_simp
    refine (Hre.out w2 (Hwd.out.trans (Hb2.out.mono Hwd.out.size)) Hlt.out.sz).mono ?_
    rintro e w3 ⟨xo, xc, rfl, ho2, hb3⟩
    have hcv := conv_str ho2.at xc
    have Hb3 := Lib.hid (Hb2.out.trans (hb3.mono Hb2.out.size))
    (refine hK' _ _ ⟨Hsu.out _ (Hb3.out), ?_⟩; clear hK' K'; try simp only [Act.put, List.setIfInBounds_toArray, List.set_cons_zero, List.set_cons_succ])
    clear ho2 hb3
    (refine wpAnyH_all (rs := [5]) (by kernel_rfl) (by simp) (fun i' hi' => ?_); (obtain rfl : i' = 5 := by simpa using hi'); clear hi'; (refine wpOp_step rfl (fun K' hK' => ?_)))
    go_simp
    (refine hK' _ _ ⟨Hsu.out _ (Hb3.out), ?_⟩; clear hK' K'; try simp only [Act.put, List.setIfInBounds_toArray, List.set_cons_zero, List.set_cons_succ])
    clear hcv
  case' inr =>
    refine wpOp_step rfl (fun K' hK' => ?_)
    go_simp
    refine (Hre.out w2 (Hwd.out.trans (Hb2.out.mono Hwd.out.size)) Hlt.out.sz).mono ?_
    rintro e w3 ⟨xo, xc, rfl, ho2, hb3⟩
    have hcv1 := conv_str (Ho.out.at.below hb3) yc
    have hcv2 := conv_str ho2.at xc
    have Hb3 := Lib.hid (Hb2.out.trans (hb3.mono Hb2.out.size))
    (refine hK' _ _ ⟨Hsu.out _ (Hb3.out), ?_⟩; clear hK' K'; try simp only [Act.put, List.setIfInBounds_toArray, List.set_cons_zero, List.set_cons_succ])
    clear ho2 hb3 hcv
    (refine wpAnyH_all (rs := [2, 5]) (by kernel_rfl) (by simp) (fun i' hi' => ?_); (have hi2 : i' = 2 ∨ i' = 5 := by simpa using hi'); clear hi'; (rcases hi2 with rfl | rfl))
  case' inr.inr =>
    refine wpOp_step rfl (fun K' hK' => ?_)
    go_simp
    (refine hK' _ _ ⟨Hsu.out _ (Hb3.out), ?_⟩; clear hK' K'; try simp only [Act.put, List.setIfInBounds_toArray, List.set_cons_zero, List.set_cons_succ])
    (refine wpAnyH_all (rs := [2]) (by kernel_rfl) (by simp) (fun i' hi' => ?_); (obtain rfl : i' = 2 := by simpa using hi'); clear hi'; (refine wpOp_step rfl (fun K' hK' => ?_)))
    go_simp
    (refine hK' _ _ ⟨Hsu.out _ (Hb3.out), ?_⟩; clear hK' K'; try simp only [Act.put, List.setIfInBounds_toArray, List.set_cons_zero, List.set_cons_succ])
    clear hcv1 hcv2
  case' inr.inl =>
    refine wpOp_step rfl (fun K' hK' => ?_)
    go_simp
    (refine hK' _ _ ⟨Hsu.out _ (Hb3.out), ?_⟩; clear hK' K'; try simp only [Act.put, List.setIfInBounds_toArray, List.set_cons_zero, List.set_cons_succ])
    (refine wpAnyH_all (rs := [5]) (by kernel_rfl) (by simp) (fun i' hi' => ?_); (obtain rfl : i' = 5 := by simpa using hi'); clear hi'; (refine wpOp_step rfl (fun K' hK' => ?_)))
    go_simp
    (refine hK' _ _ ⟨Hsu.out _ (Hb3.out), ?_⟩; clear hK' K'; try simp only [Act.put, List.setIfInBounds_toArray, List.set_cons_zero, List.set_cons_succ])
    clear hcv1 hcv2
  all_goals
    (refine wpAnyH_all (rs := [6]) (by kernel_rfl) (by simp) (fun i' hi' => ?_); (obtain rfl : i' = 6 := by simpa using hi'); clear hi'; (refine wpOp_step rfl (fun K' hK' => ?_)))
    go_simp
    (refine hK' _ _ ⟨Hsu.out _ (Hb3.out), ?_⟩; clear hK' K'; try simp only [Act.put, List.setIfInBounds_toArray, List.set_cons_zero, List.set_cons_succ])
    refine wpAnyH_done (by kernel_rfl) ?_ _
    refine NoPanic.normal ?_
    have S3 := Lib.hid (S2.out.grow Hb3.out)
    clear Hb3 Hb2 Ho HC Hsu Hre S2
    go_wp2_with fail
    refine (Hpd.out w3 S3.out.b).mono ?_
    rintro e w4 ⟨hb4, zx, zxc, rfl, hzx⟩
    have S4 := Lib.hid (S3.out.grow hb4)
    have Hzx := Lib.hid hzx
    clear hb4 hzx S3
    go_wp2_with fail
    obtain ⟨B1, hB1⟩ : ∃ B, B = w4.heap.size := ⟨_, rfl⟩
    have S5 : Hid (St w _ (thObj B1 (.cells #[.int .i64 xm.ver, .int .i64 xm.next, .slice zx xm.zs.length zxc] 30) :: [thObj (w.heap.size + 1) (.cells #[.int .i64 kind, .int .i64 zone, .int .i64 epoch, .int .i64 tt, .string key] 34), thObj w.heap.size (.cells #[.int .i64 ver, .int .i64 nx, .slice ao n zc] 30)])) := Lib.hid (S4.out.objN _ B1 hB1)
    have Hzx := Lib.hid (Hzx.out.grow (below_allocO w4 (.cells #[.int .i64 xm.ver, .int .i64 xm.next, .slice zx xm.zs.length zxc] 30)))
    rw [← hB1]
    clear hB1 S4
    refine (Hrd.out _ S5.out.b).mono ?_
    rintro e w5 ⟨hb5, zy, zyc, rfl, hzy⟩
    have S6 := Lib.hid (S5.out.grow hb5)
    have Hzx := Lib.hid (Hzx.out.grow hb5)
    have Hzy := Lib.hid hzy
    clear hb5 hzy S5
    obtain ⟨c1, c2, -⟩ := S6.out.cellsN 1 rfl
    go_wp2_with fail
    obtain ⟨B2, hB2⟩ : ∃ B, B = w5.heap.size := ⟨_, rfl⟩
    have S7 : Hid (St w _ [thObj B2 (.cells #[.int .i64 xm.ver, .int .i64 xm.next, .slice zy xm.zs.length zyc] 30), thObj B1 (.cells #[.int .i64 xm.ver, .int .i64 xm.next, .slice zx xm.zs.length zxc] 30), thObj (w.heap.size + 1) (.cells #[.int .i64 kind, .int .i64 zone, .int .i64 epoch, .int .i64 tt, .string key] 34), thObj w.heap.size (.cells #[.int .i64 ver, .int .i64 nx, .slice ao n zc] 30)]) := Lib.hid (S6.out.objN _ B2 hB2)
    have hbo := below_allocO w5 (.cells #[.int .i64 xm.ver, .int .i64 xm.next, .slice zy xm.zs.length zyc] 30)
    have Hzx := Lib.hid (Hzx.out.grow hbo)
    have Hzy := Lib.hid (Hzy.out.grow hbo)
    rw [← hB2]
    clear hB2 S6 c1 c2 hbo
    refine (Hpec.out _).mono ?_
    rintro e w6 ⟨hb6, po, pc, rfl, hbp, hp0⟩
    have S8 := Lib.hid (S7.out.grow hb6)
    have Hzx := Lib.hid (Hzx.out.grow hb6)
    have Hzy := Lib.hid (Hzy.out.grow hb6)
    have Hbp := Lib.hid hbp
    have Hp0 := Lib.hid hp0
    clear hb6 hbp hp0 S7
    obtain ⟨c1, c2, -⟩ := S8.out.cellsN 2 rfl
    go_wp2_with fail
    clear c1 c2
    refine (Hrec.out _).mono ?_
    rintro e w7 ⟨hb7, qo, qc, rfl, hbq, -⟩
    have S9 := Lib.hid (S8.out.grow hb7)
    have Hzx := Lib.hid (Hzx.out.grow hb7)
    have Hzy := Lib.hid (Hzy.out.grow hb7)
    have Hbp := Lib.hid (Hbp.out.below hb7)
    have Hbq := Lib.hid hbq
    clear hb7 hbq S8
    go_wp2_with fail
    refine (Hpdc.out _ S9.out.b).mono ?_
    rintro e w8 ⟨hb8, rfl⟩
    have T1 := Lib.hid (S9.out.grow hb8)
    have Hzx := Lib.hid (Hzx.out.grow hb8)
    have Hzy := Lib.hid (Hzy.out.grow hb8)
    have Hbp := Lib.hid (Hbp.out.below hb8)
    have Hbq := Lib.hid (Hbq.out.below hb8)
    clear hb8 S9
    go_wp2_with fail
    obtain ⟨B3, hB3⟩ : ∃ B, B = w8.heap.size := ⟨_, rfl⟩
    have T2 : Hid (St w _ [thObj B3 (.cells #[.int .i64 xg.kind, .int .i64 xg.zone, .int .i64 xg.epoch, .int .i64 xg.tt, .string xg.key] 34), thObj B2 (.cells #[.int .i64 xm.ver, .int .i64 xm.next, .slice zy xm.zs.length zyc] 30), thObj B1 (.cells #[.int .i64 xm.ver, .int .i64 xm.next, .slice zx xm.zs.length zxc] 30), thObj (w.heap.size + 1) (.cells #[.int .i64 kind, .int .i64 zone, .int .i64 epoch, .int .i64 tt, .string key] 34), thObj w.heap.size (.cells #[.int .i64 ver, .int .i64 nx, .slice ao n zc] 30)]) := Lib.hid (T1.out.objN _ B3 hB3)
    have hbo := below_allocO w8 (.cells #[.int .i64 xg.kind, .int .i64 xg.zone, .int .i64 xg.epoch, .int .i64 xg.tt, .string xg.key] 34)
    have Hzx := Lib.hid (Hzx.out.grow hbo)
    have Hzy := Lib.hid (Hzy.out.grow hbo)
    have Hbp := Lib.hid (Hbp.out.below hbo)
    have Hbq := Lib.hid (Hbq.out.below hbo)
    rw [← hB3]
    clear hB3 T1 hbo
    refine (Hrdc.out _ T2.out.b).mono ?_
    rintro e w9 ⟨hb9, rfl⟩
    have T3 := Lib.hid (T2.out.grow hb9)
    have Hzx := Lib.hid (Hzx.out.grow hb9)
    have Hzy := Lib.hid (Hzy.out.grow hb9)
    have Hbp := Lib.hid (Hbp.out.below hb9)
    have Hbq := Lib.hid (Hbq.out.below hb9)
    clear hb9 T2
    obtain ⟨x1, x2, -⟩ := T3.out.cellsN 2 rfl
    obtain ⟨y1, y2, -⟩ := T3.out.cellsN 1 rfl
    go_wp2_with fail
    obtain ⟨B4, hB4⟩ : ∃ B, B = w9.heap.size := ⟨_, rfl⟩
    have T4 : Hid (St w _ [thObj B4 (.cells #[.int .i64 xg.kind, .int .i64 xg.zone, .int .i64 xg.epoch, .int .i64 xg.tt, .string xg.key] 34), thObj B3 (.cells #[.int .i64 xg.kind, .int .i64 xg.zone, .int .i64 xg.epoch, .int .i64 xg.tt, .string xg.key] 34), thObj B2 (.cells #[.int .i64 xm.ver, .int .i64 xm.next, .slice zy xm.zs.length zyc] 30), thObj B1 (.cells #[.int .i64 xm.ver, .int .i64 xm.next, .slice zx xm.zs.length zxc] 30), thObj (w.heap.size + 1) (.cells #[.int .i64 kind, .int .i64 zone, .int .i64 epoch, .int .i64 tt, .string key] 34), thObj w.heap.size (.cells #[.int .i64 ver, .int .i64 nx, .slice ao n zc] 30)]) := Lib.hid (T3.out.objN _ B4 hB4)
    have hbo := below_allocO w9 (.cells #[.int .i64 xg.kind, .int .i64 xg.zone, .int .i64 xg.epoch, .int .i64 xg.tt, .string xg.key] 34)
    have Hzx := Lib.hid (Hzx.out.grow hbo)
    have Hzy := Lib.hid (Hzy.out.grow hbo)
    have Hbp := Lib.hid (Hbp.out.below hbo)
    have Hbq := Lib.hid (Hbq.out.below hbo)
    rw [← hB4]
    clear hB4 T3 hbo x1 x2 y1 y2
    refine (maps_eq zx zy zxc zyc xm.zs xm.ver xm.next _ Hzx.out Hzy.out hxml).mono ?_
    rintro e w10 ⟨rfl, hb10⟩
    have T5 := Lib.hid (T4.out.grow hb10)
    have Hbp := Lib.hid (Hbp.out.below hb10)
    have Hbq := Lib.hid (Hbq.out.below hb10)
    have hcvp := conv_str Hbp.out pc
    have hcvq := conv_str Hbq.out qc
    have heq := fun w => eql_ch xg xg w true (by unfold eqC; simp)
    have f1 : (ex != ex) = false := by simp
    have f2 : (ee != ee) = false := by simp
    have f3 : (ec != ec) = false := by simp
    obtain ⟨x1, x2, -⟩ := T5.out.cellsN 0 rfl
    obtain ⟨y1, y2, -⟩ := T5.out.cellsN 1 rfl
    obtain ⟨m1, m2, -⟩ := T5.out.cellsN 5 rfl
    clear hb10 T4 Hzx Hzy
    go_wp2_with fail
    clear hcvp hcvq heq f1 f2 f3 x1 x2 y1 y2 m1 m2
    refine (Hpe.out w10 T5.out.b Hlt.out.sz).mono ?_
    rintro e w11 ⟨ko, kc, rfl, ho, hb11⟩
    have T6 := Lib.hid (T5.out.grow hb11)
    have Hbp := Lib.hid (Hbp.out.below hb11)
    have Hk0 := Lib.hid ho.none
    have Hka := Lib.hid ho.at
    clear hb11 ho T5 Hbq
    go_wp2_with fail
    refine (Hbm.out ko kc w11 Hk0.out Hka.out).mono ?_
    rintro e w12 ⟨hb12, zu, zuc, uv, un, uk, eu, rfl, hue⟩
    have T7 := Lib.hid (T6.out.grow hb12)
    have Hbp := Lib.hid (Hbp.out.below hb12)
    have Hue := Lib.hid hue
    clear hb12 hue T6 Hk0 Hka
    go_wp2_with fail
    obtain ⟨B5, hB5⟩ : ∃ B, B = w12.heap.size := ⟨_, rfl⟩
    have T8 : Hid (St w _ [thObj B5 (.cells #[.int .i64 uv, .int .i64 un, .slice zu uk zuc] 30), thObj B4 (.cells #[.int .i64 xg.kind, .int .i64 xg.zone, .int .i64 xg.epoch, .int .i64 xg.tt, .string xg.key] 34), thObj B3 (.cells #[.int .i64 xg.kind, .int .i64 xg.zone, .int .i64 xg.epoch, .int .i64 xg.tt, .string xg.key] 34), thObj B2 (.cells #[.int .i64 xm.ver, .int .i64 xm.next, .slice zy xm.zs.length zyc] 30), thObj B1 (.cells #[.int .i64 xm.ver, .int .i64 xm.next, .slice zx xm.zs.length zxc] 30), thObj (w.heap.size + 1) (.cells #[.int .i64 kind, .int .i64 zone, .int .i64 epoch, .int .i64 tt, .string key] 34), thObj w.heap.size (.cells #[.int .i64 ver, .int .i64 nx, .slice ao n zc] 30)]) := Lib.hid (T7.out.objN _ B5 hB5)
    have hbo := below_allocO w12 (.cells #[.int .i64 uv, .int .i64 un, .slice zu uk zuc] 30)
    have Hbp := Lib.hid (Hbp.out.below hbo)
    have Hue : Hid (qm = true → uv = ver ∧ un = nx ∧ uk = n ∧ eu = 0 ∧ ZsAt _ zu m.zs) := Lib.hid fun h => by
      obtain ⟨a, b, c, d, e⟩ := Hue.out h
      exact ⟨a, b, c, d, e.grow hbo⟩
    rw [← hB5]
    clear hB5 T7 hbo
    refine (Hbc.out po pc _ Hp0.out Hbp.out).mono ?_
    rintro e w13 ⟨hb13, k1, k2, k3, k4, k5, ev, rfl, hve⟩
    have T9 := Lib.hid (T8.out.grow hb13)
    have Hue : Hid (qm = true → uv = ver ∧ un = nx ∧ uk = n ∧ eu = 0 ∧ ZsAt w13 zu m.zs) := Lib.hid fun h => by
      obtain ⟨a, b, c, d, e⟩ := Hue.out h
      exact ⟨a, b, c, d, e.grow hb13⟩
    have Hve := Lib.hid hve
    obtain ⟨m1, m2, -⟩ := T9.out.cellsN 6 rfl
    clear hb13 hve T8 Hbp
    go_wp2_with fail
    obtain ⟨B6, hB6⟩ : ∃ B, B = w13.heap.size := ⟨_, rfl⟩
    have T10 : Hid (St w _ [thObj B6 (.cells #[.int .i64 k1, .int .i64 k2, .int .i64 k3, .int .i64 k4, .string k5] 34), thObj B5 (.cells #[.int .i64 uv, .int .i64 un, .slice zu uk zuc] 30), thObj B4 (.cells #[.int .i64 xg.kind, .int .i64 xg.zone, .int .i64 xg.epoch, .int .i64 xg.tt, .string xg.key] 34), thObj B3 (.cells #[.int .i64 xg.kind, .int .i64 xg.zone, .int .i64 xg.epoch, .int .i64 xg.tt, .string xg.key] 34), thObj B2 (.cells #[.int .i64 xm.ver, .int .i64 xm.next, .slice zy xm.zs.length zyc] 30), thObj B1 (.cells #[.int .i64 xm.ver, .int .i64 xm.next, .slice zx xm.zs.length zxc] 30), thObj (w.heap.size + 1) (.cells #[.int .i64 kind, .int .i64 zone, .int .i64 epoch, .int .i64 tt, .string key] 34), thObj w.heap.size (.cells #[.int .i64 ver, .int .i64 nx, .slice ao n zc] 30)]) := Lib.hid (T9.out.objN _ B6 hB6)
    have hbo := below_allocO w13 (.cells #[.int .i64 k1, .int .i64 k2, .int .i64 k3, .int .i64 k4, .string k5] 34)
    rw [← hB6]
    clear hB6 T9 m1 m2
    refine (Hrm.out _ T10.out.b (by have := Hlt.out.1; have := Hn.out; omega)).mono ?_
    rintro e w14 ⟨rfl, hb14⟩
    have T11 := Lib.hid (T10.out.grow hb14)
    have Hue : Hid (qm = true → uv = ver ∧ un = nx ∧ uk = n ∧ eu = 0 ∧ ZsAt w14 zu m.zs) := Lib.hid fun h => by
      obtain ⟨a, b, c, d, e⟩ := Hue.out h
      exact ⟨a, b, c, d, (e.grow hbo).grow hb14⟩
    clear T10 hbo hb14
    obtain ⟨v1, v2, -⟩ := T11.out.cellsN 0 rfl
    obtain ⟨u1, u2, -⟩ := T11.out.cellsN 1 rfl
    obtain ⟨c1, c2, -⟩ := T11.out.cellsN 6 rfl
    obtain ⟨m1, m2, -⟩ := T11.out.cellsN 7 rfl
    have heqv := fun w => eql_ch ⟨kind, zone, epoch, tt, key⟩ ⟨kind, zone, epoch, tt, key⟩ w true (by unfold eqC; simp)
    dsimp only at heqv
    cases qm with
    | true =>
      obtain ⟨e1, e2, e3, e4, hzu⟩ := Hue.out rfl
      have hmaps := maps_eq zu ao zuc zc m.zs ver nx w14 hzu (Hz.out.grow T11.out.b) (by have := Hlt.out.1; omega)
      rw [← Hn.out] at hmaps
      rw [e1, e2, e3] at u2
      subst e4
      clear e1 e2 e3 hzu Hue
      cases mc with
      | true =>
        have hee := Hee.out.1 rfl
        obtain ⟨a1, a2, a3, a4, a5, a6⟩ := Hve.out rfl
        subst a1 a2 a3 a4 a5 a6 hee
        go_wp2_with fail
        refine hmaps.mono ?_
        rintro e w15 ⟨rfl, hb15⟩
        have T12 := Lib.hid (T11.out.grow hb15)
        obtain ⟨v1, v2, -⟩ := T12.out.cellsN 0 rfl
        obtain ⟨c1, c2, -⟩ := T12.out.cellsN 6 rfl
        clear hb15 T11
        go_wp2_with fail
        refine (known_any _).mono ?_
        rintro e w16 ⟨rfl, hb16⟩
        have w16_b := (T12.out.grow hb16).b
        go_wp2_with fail
        go_ret
        exact ⟨rfl, w16_b⟩
      | false =>
        have hee := Hee.out.2 rfl
        subst hee
        go_wp2_with fail
        refine hmaps.mono ?_
        rintro e w15 ⟨rfl, hb15⟩
        have T12 := Lib.hid (T11.out.grow hb15)
        clear hb15 T11
        go_wp2_with fail
        refine (known_any _).mono ?_
        rintro e w16 ⟨rfl, hb16⟩
        have w16_b := (T12.out.grow hb16).b
        go_wp2_with fail
        go_ret
        exact ⟨rfl, w16_b⟩
    | false =>
      cases mc with
      | true =>
        have hee := Hee.out.1 rfl
        obtain ⟨a1, a2, a3, a4, a5, a6⟩ := Hve.out rfl
        subst a1 a2 a3 a4 a5 a6 hee
        go_wp2_with fail
        refine (known_any _).mono ?_
        rintro e w16 ⟨rfl, hb16⟩
        have w16_b := (T11.out.grow hb16).b
        go_wp2_with fail
        go_ret
        exact ⟨rfl, w16_b⟩
      | false =>
        have hee := Hee.out.2 rfl
        subst hee
        go_wp2_with fail
        refine (known_any _).mono ?_
        rintro e w16 ⟨rfl, hb16⟩
        have w16_b := (T11.out.grow hb16).b
        go_wp2_with fail
        go_ret
        exact ⟨rfl, w16_b⟩
end Go.Proofs.Ytobnibdeimiinaa.O
namespace Go.Proofs.Ytobnibdeimiinaa
open Go.RowKit
namespace DirBytesLift
open Go.ChangeShapes Go.WideShapes Go.ChangeAt Go.RowKit Go.Joins Go.Deep
open Go.ChangeMaps (open_string shut_string)

theorem own : ownKnob Try.prog.godebug = none := by kernel_rfl
theorem laidOut : laidOutB Try.prog = true := by kernel_rfl

set_option maxHeartbeats 1000000 in
set_option maxRecDepth 100000 in
theorem lifted (os : Os) (started : os.Started) (H : Type) (enc : TypeId × Value → H) :
    ReturnsInHanded {} Try.checked os 11 .any (Rows.dirBytesSpec.pre6 enc Try.prog Try.f11 Rows.dirBytesRow.domain false) (Rows.dirBytesSpec.post enc Try.prog Try.f11 false true false false) := by
  refine returnsInHanded_of_change_sized (C := Try.checked) own started (by kernel_rfl) Try.func11
    (ChangeSpec.witness6 (enc := enc) (C := Try.checked) false ⟨#[], #[.agg #[.int .i64 0, .int .i64 0, .slice none 0 0], .agg #[.int .i64 0, .int .i64 0, .int .i64 0, .int .i64 0, .string ⟨#[]⟩], .slice none 0 0], []⟩ 8 (by kernel_rfl) (by kernel_rfl) (by kernel_rfl) (by kernel_rfl)) ?_
  intro W base args ds gs before hval0 hW hcnd hsz0 _
  have hval : ∀ (j : Nat) t v, Try.f11.params[j]? = some t → args[j]? = some v → Value.okWide Try.prog W .any base t v := hval0
  have hW' := hW
  obtain ⟨p, q, hA0, hV, rfl, hfz, hnd⟩ := hW
  have hA : DataW.TrodAll enc Try.prog W 0 (fun _ => true) true Try.f11.params.toList args.toList ds p := hA0
  have hsz : (DataW.weightsEach Try.prog (Try.f11.params.toList ++ Rows.dirBytesSpec.plain.varTypes Try.prog) (ds ++ gs)).all (· ≤ reachBytes) = true := hsz0
  rw [Try.params11] at hA hval hsz
  obtain ⟨v0, vs0, d0, ds0, p0, q0, hargs, rfl, rfl, h0, r0⟩ := trodAll_cons hA
  obtain ⟨v1, vs1, d1, ds1, p1, q1, rfl, rfl, rfl, h1, r1⟩ := trodAll_cons r0
  obtain ⟨v2, vs2, d2, ds2, p2, q2, rfl, rfl, rfl, h2, r2⟩ := trodAll_cons r1
  obtain ⟨rfl, rfl, rfl⟩ := trodAll_nil r2
  obtain rfl : args = #[v0, v1, v2] := by cases args; simp_all
  obtain ⟨rfl, rfl⟩ := trodVars_none hV
  have k0 := h0
  have lt0 : ∀ x ∈ p0, x.block < W.heap.size := by obtain ⟨m, hm⟩ := k0; exact DataW.trod_lt m _ _ _ hm
  have k1 := h1
  have lt1 : ∀ x ∈ p1, x.block < W.heap.size := by obtain ⟨m, hm⟩ := k1; exact DataW.trod_lt m _ _ _ hm
  have k2 := h2
  have lt2 : ∀ x ∈ p2, x.block < W.heap.size := by obtain ⟨m, hm⟩ := k2; exact DataW.trod_lt m _ _ _ hm
  have post : ∀ e W', e = Ending.returned (.bool true) → Below W.heap.size W W' → ∃ v, e = .returned v ∧ Rows.dirBytesSpec.post enc Try.prog Try.f11 false true false false W #[v0, v1, v2] v W' := by
    intro e W' he bel
    subst he
    exact ⟨_, rfl, _, _, _, [], _, [], hW', trodAll_mk1 (shut_bool Try.underlying4 _), (trodAll_cons_mk (Below.trod laidOut (by kernel_rfl) (of_decide_eq_true (by kernel_rfl)) k0 bel lt0) (trodAll_cons_mk (Below.trod laidOut (by kernel_rfl) (of_decide_eq_true (by kernel_rfl)) k1 bel lt1) (trodAll_cons_mk (Below.trod laidOut (by kernel_rfl) (of_decide_eq_true (by kernel_rfl)) k2 bel lt2) trodAll_mk0))), rfl, bel.frame _, fun h => by cases h⟩
  clear hW' hcnd hfz hnd hA0 hA hval0
  obtain ⟨m, ao, ca, rfl, hm1, hm2, hm3⟩ := O.open_map (hval 0 30 v0 rfl rfl) h0
  obtain ⟨c, rfl⟩ := O.open_change (hval 1 34 v1 rfl rfl) h1
  obtain ⟨bo, l, cb, rfl, hb1, hb2, hb3, hb4⟩ := open_bytes (hval 2 58 v2 rfl rfl) h2
  exact (O.bytes_walk ao ca m c bo cb l W hm3 (by unfold maxLen at hm2; omega) hb3 hb1 (by unfold maxLen at hb2; omega) hb4).mono fun e W' ⟨he, bel⟩ => post e W' he bel

theorem over : Rows.dirBytesRow.holds Try.pinned (OpenSpec.ofChange Rows.dirBytesSpec) :=
  OpenClaim.holds_of_wide 11 Try.f11 rfl rfl rfl rfl rfl rfl rfl ⟨rfl, rfl, rfl, rfl, rfl⟩ rfl rfl rfl rfl rfl (by kernel_rfl) Try.func11 (by kernel_rfl)
    (of_decide_eq_true (by kernel_rfl)) (by unfold Func.isWrapper; first | (rw [if_pos (by decide +kernel)]; kernel_rfl) | (rw [if_neg (by decide +kernel)]; exact ⟨rfl, rfl⟩))
    (fun os started H enc _ => lifted os started H enc)
end DirBytesLift

/-- The statement. -/
theorem dirBytes_holds : Rows.DirBytesSaid := DirBytesLift.over
#print axioms dirBytes_holds
end Go.Proofs.Ytobnibdeimiinaa
