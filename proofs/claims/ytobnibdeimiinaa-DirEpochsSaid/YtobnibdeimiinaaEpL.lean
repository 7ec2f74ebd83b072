/- No zone's Epoch ever falls, and with another Owner it is greater: the statement DirEpochs. -/
import Derived.Test.YtobnibdeimiinaaTwo
import Derived.Test.YtobnibdeimiinaaEpP
import Derived.Test.YtobnibdeimiinaaHv
import Derived.Test.YtobnibdeimiinaaDKnown
import Derived.Test.YtobnibdeimiinaaDMaps
import Derived.Test.YtobnibdeimiinaaRows
namespace Go.Proofs.Ytobnibdeimiinaa
open Go.RowKit Go.Joins

def hosts4 : List Int := [8, 9, 10, 11]
theorem in4 : ∀ n ∈ hosts4, 1 ≤ n ∧ n ≤ 1048576 := by simp [hosts4]
theorem inv_next {hosts : List Int} (hh : ∀ n ∈ hosts, 1 ≤ n ∧ n ≤ 1048576) {m : Mp} (h : Inv m) (c : Ch) : Inv ((applyM hosts m c).getD m) := by
  cases hm : applyM hosts m c with
  | none => exact h
  | some m' => exact apply_inv hh h hm
theorem ver_next {hosts : List Int} {m m' : Mp} {c : Ch} (hm : applyM hosts m c = some m') : m'.ver = m.ver + 1 := by
  unfold applyM at hm
  split at hm
  · cases hf : findZ m.zs c.zone with
    | none => rw [hf] at hm; cases hm
    | some i =>
      rw [hf] at hm
      simp only at hm
      cases hi : m.zs[i]? with
      | none => rw [hi] at hm; cases hm
      | some z =>
        rw [hi] at hm
        simp only [Option.map_eq_some_iff] at hm
        obtain ⟨m2, h2, rfl⟩ := hm
        simp only [change_ver h2]
  · cases hm
theorem St.cellsT {W w : World} {L : List Th} (h : St W w L) (i : Nat) {b : Nat} {cur : Array Value} {t : TypeId} (hi : L[i]? = some (thObj b (.cells cur t (0, 0)))) : b < w.heap.size ∧ (∀ j, w.cell? ⟨b, j, none⟩ = cur[j]?) ∧ ∀ j, w.frozen? ⟨b, j, none⟩ = false := h.cells (List.mem_of_getElem? hi)
/-- A fresh map's row, as a thing. -/
theorem St.mapRow {W w w' : World} {L : List Th} {g c : Nat} {l : List Zn} (h : St W w L) (hb : Below w.heap.size w w') (ho : OwnZ w' w.heap.size g c l) : St W w' (thZ W.heap.size g c l :: L) :=
  h.new hb _ (ho.weak h.b.size) (fun x e => by rw [show x = g from e]; exact ho.facts.1)
set_option maxRecDepth 20000 in
set_option maxHeartbeats 4000000 in
theorem epochs_walk (ao : Option Addr) (lc : Nat) (l : List Ch) (w : World) (hm : l.length ≤ 9223372036854775807) (h : ChAt w ao l) :
    Calls Try.prog 3 #[.slice ao l.length lc] w fun e w' => e = .returned (.bool true) ∧ Below w.heap.size w w' := by
  have H := Lib.hid h
  obtain ⟨hv, hhv⟩ : ∃ hv, hv = heavyC l := ⟨_, rfl⟩
  have hhe := heavyC_any ao lc l w h hm
  rw [← hhv] at hhe
  have Hhe := Lib.hid hhe
  clear h hhv hhe
  cases hv with
  | true =>
    go_enter Try.func3, Try.ntmps3
    go_wp2_with fail
    refine Hhe.out.mono ?_
    rintro e w1 ⟨rfl, w1_b⟩
    go_wp2_with fail
    go_ret
    exact ⟨rfl, w1_b⟩
  | false =>
    go_enter Try.func3, Try.ntmps3
    go_wp2_with fail
    refine Hhe.out.mono ?_
    rintro e w1 ⟨rfl, w1_b⟩
    have S0 := Lib.hid (((St.start w).grow w1_b).grow (below_allocO w1 (.cells #[.int .i64 8, .int .i64 9, .int .i64 10, .int .i64 11] 3)))
    have hia : Hid (IAtD (w1.alloc (.cells #[.int .i64 8, .int .i64 9, .int .i64 10, .int .i64 11] 3)) (some ⟨w1.heap.size, 0, none⟩) hosts4) := iat_lit w1 _ rfl hosts4 3 (0, 0)
    clear w1_b Hhe
    go_wp2_with fail
    refine (new_any S0.out (some ⟨w1.heap.size, 0, none⟩) 4 hosts4 hia.out (by decide)).mono ?_
    intro e w2 h1
    unfold NewPost at h1
    rw [if_pos (by decide +kernel)] at h1
    obtain ⟨p, g, zc, b, c', rfl, hS⟩ := h1
    have S1 := Lib.hid hS
    clear S0 hia hS
    go_wp2_with fail
    go_loopw [5] (fun s wr => ∃ i : Nat, ∃ m : Mp, s = .int .i64 i ∧ i ≤ l.length ∧ i ≤ 100 ∧ Hid (Inv m) ∧ Hid (∃ g zc, St w wr (thDir 76 w.heap.size p g zc m (some ⟨b, 0, none⟩) 4 c' :: thInts w.heap.size b c' hosts4 :: []))) (fun s _ => l.length - (intOf s).toNat)
    case atStart => exact ⟨0, firstM 8, rfl, by omega, by omega, Lib.hid first8, Lib.hid ⟨g, zc, S1.out⟩⟩
    case round =>
      obtain ⟨i, m, rfl, hi, hi2, HI, hS⟩ := hrel
      obtain ⟨g0, zc0, hS⟩ := hS.out
      have S2 := Lib.hid hS
      clear hS S1
      by_cases hgo : i < l.length ∧ i < 100
      · obtain ⟨hlt, h100⟩ := hgo
        obtain ⟨bb, off, rfl, hbb, hr⟩ := H.out (by omega)
        obtain ⟨c, hc⟩ : ∃ c, c = l[i] := ⟨_, rfl⟩
        have hcs := hr i hlt
        rw [← hc] at hcs
        clear hr hc
        have Hcs := Lib.hid hcs
        clear hcs
        have e0 : decide ((i : Int) < 100) = true := by rw [decide_eq_true_eq]; omega
        go_wp2_with fail
        refine (map_any S2.out.head HI.out.pos (Nat.le_trans HI.out.len (by decide))).mono ?_
        rintro e w3 ⟨ga, ca, rfl, ho, hb⟩
        have S3 := Lib.hid (S2.out.mapRow hb ho)
        have hb3 := S3.out.b
        have hbb3 : bb < w3.heap.size := Nat.lt_of_lt_of_le hbb hb3.size
        obtain ⟨k0, k1, k2, k3, k4⟩ := Hcs.out
        have x0 := (hb3.cell (p := ⟨bb, _, none⟩) hbb).trans k0
        have x1 := (hb3.cell (p := ⟨bb, _, none⟩) hbb).trans k1
        have x2 := (hb3.cell (p := ⟨bb, _, none⟩) hbb).trans k2
        have x3 := (hb3.cell (p := ⟨bb, _, none⟩) hbb).trans k3
        have x4 := (hb3.cell (p := ⟨bb, _, none⟩) hbb).trans k4
        clear ho hb S2 k0 k1 k2 k3 k4
        go_wp2_with fail
        have S4 := Lib.hid (((S3.out.objN (.cells #[.int .i64 m.ver, .int .i64 m.next, .slice (some ⟨ga, 0, none⟩) m.zs.length ca] 30) w3.heap.size rfl).pull (A := [_, _, _])).pull (A := [_, _, _]))
        obtain ⟨r, hr⟩ : ∃ r, r = applyM hosts4 m c := ⟨_, rfl⟩
        refine (apply_at S4.out HI.out (by decide) c r hr.symm).mono ?_
        rintro e w4 ⟨g4, zc4, rfl, hS⟩
        have S5 := Lib.hid hS
        have HI2 := Lib.hid (inv_next in4 HI.out c)
        rw [← hr] at HI2
        have HE : Hid (∀ x ∈ m.zs, ∀ y ∈ (r.getD m).zs, x.id = y.id → okE x y) := fun x hx y hy e => epochs_ok HI.out hx (by rw [hr] at hy; exact hy) e
        have HV : Hid (∀ m', r = some m' → m'.ver = m.ver + 1) := fun m' e => ver_next (by rw [← hr]; exact e)
        clear hS S3 S4 x0 x1 x2 x3 x4 hr hb3
        obtain ⟨m2, hm2⟩ : ∃ m2, m2 = r.getD m := ⟨_, rfl⟩
        rw [← hm2] at S5 HI2 HE
        have Hm2 := Lib.hid hm2
        clear hm2
        obtain ⟨N6, hN6⟩ : ∃ N6, N6 = w3.heap.size := ⟨_, rfl⟩
        rw [← hN6] at S5 ⊢
        clear hN6
        go_wp2_with fail
        refine (map_any S5.out.head HI2.out.pos (Nat.le_trans HI2.out.len (by decide))).mono ?_
        rintro e w5 ⟨gb, cb, rfl, ho, hb⟩
        have S6 := Lib.hid ((S5.out.mapRow hb ho).objN (.cells #[.int .i64 m2.ver, .int .i64 m2.next, .slice (some ⟨gb, 0, none⟩) m2.zs.length cb] 30) w5.heap.size rfl)
        obtain ⟨hl6, hc6, -⟩ := (S5.out.grow hb).cellsT 2 rfl
        have c60 : w5.cell? ⟨N6, 0, none⟩ = some (.int .i64 m.ver) := hc6 0
        have c61 : w5.cell? ⟨N6, 1, none⟩ = some (.int .i64 m.next) := hc6 1
        have c62 : w5.cell? ⟨N6, 2, none⟩ = some (.slice (some ⟨ga, 0, none⟩) m.zs.length ca) := hc6 2
        clear ho hb S5 hc6
        have hv1 := HI.out.ver
        have hlen1 := HI.out.len
        have hlen2 := HI2.out.len
        have hza := (S6.out.mem (t := thZ w.heap.size ga ca m.zs) (by simp)).at
        have hzb := (S6.out.mem (t := thZ w.heap.size gb cb m2.zs) (by simp)).at
        have Hza := Lib.hid hza
        have Hzb := Lib.hid hzb
        clear hza hzb
        rcases r with _ | mm
        case' none =>
          have hmm : m2 = m := Hm2.out
          have e1 : (m2.ver == m.ver + 1) = false := by rw [beq_eq_false_iff_ne, hmm]; omega
          have hmb : Hid (mapsB m.ver m.next m2.ver m2.next m.zs m2.zs = true) := by rw [hmm]; simp [mapsB, Hid]
          clear hmm
          go_wp2_with fail
          refine (maps_any Hza.out Hzb.out (by omega) m.ver m.next m2.ver m2.next).mono ?_
          rw [hmb.out]
          rintro e w7 ⟨rfl, hb7⟩
          have S7 := Lib.hid (S6.out.grow hb7)
          clear hb7 e1 hmb Hza Hzb S6
          go_wp2_with fail
        case' some =>
          have hmm : m2 = mm := Hm2.out
          have hver : m2.ver = m.ver + 1 := by rw [hmm]; exact HV.out mm rfl
          have e1 : (m2.ver == m.ver + 1) = true := by rw [beq_iff_eq]; exact hver
          clear hmm hver
          go_wp2_with fail
          refine wp_name fun w7 hw7 => ?_
          have S7 : Hid (St w w7 (thObj w5.heap.size (.cells #[.int .i64 m2.ver, .int .i64 m2.next, .slice (some ⟨gb, 0, none⟩) m2.zs.length cb] 30 (0, 0)) :: thZ w.heap.size gb cb m2.zs :: thDir 76 w.heap.size p g4 zc4 m2 (some ⟨b, 0, none⟩) 4 c' :: thInts w.heap.size b c' hosts4 :: thObj N6 (.cells #[.int .i64 m.ver, .int .i64 m.next, .slice (some ⟨ga, 0, none⟩) m.zs.length ca] 30 (0, 0)) :: thZ w.heap.size ga ca m.zs :: [])) := by rw [hw7]; exact S6
          clear hw7 e1 Hza Hzb S6
        all_goals
          obtain ⟨N8, hN8⟩ : ∃ N8, N8 = w5.heap.size := ⟨_, rfl⟩
          rw [← hN8] at S7 ⊢
          clear hN8 HV Hm2 c60 c61 c62 hl6
          obtain ⟨l6, c6, -⟩ := S7.out.cellsT 4 rfl
          obtain ⟨l8, c8, -⟩ := S7.out.cellsT 0 rfl
          have c62 : w7.cell? ⟨N6, 2, none⟩ = some (.slice (some ⟨ga, 0, none⟩) m.zs.length ca) := c6 2
          have c82 : w7.cell? ⟨N8, 2, none⟩ = some (.slice (some ⟨gb, 0, none⟩) m2.zs.length cb) := c8 2
          have Hza := Lib.hid (S7.out.mem (t := thZ w.heap.size ga ca m.zs) (by simp)).at
          have Hzb := Lib.hid (S7.out.mem (t := thZ w.heap.size gb cb m2.zs) (by simp)).at
          clear c6 c8
          go_loopw [9] (fun s wk => ∃ k : Nat, s = .int .i64 k ∧ k ≤ m.zs.length ∧ Hid (Below w7.heap.size w7 wk)) (fun s _ => m.zs.length - (intOf s).toNat)
          case atStart => exact ⟨0, rfl, by omega, Lib.hid (Below.refl _ _)⟩
          case round =>
            obtain ⟨k, rfl, hk, Hbk⟩ := hrel
            obtain ⟨xk, -⟩ := bcell Hbk.out
            have y62 := (xk _ _ l6).trans c62
            have y82 := (xk _ _ l8).trans c82
            have sk := Hbk.out.size
            have l6k : N6 < wr.heap.size := by omega
            have l8k : N8 < wr.heap.size := by omega
            clear xk
            by_cases hkl : k < m.zs.length
            · go_wp2_with fail
              obtain ⟨wo, rfl⟩ : ∃ wo : World, wo = wr := ⟨_, rfl⟩
              go_loopw [10] (fun s wj => ∃ j : Nat, s = .int .i64 j ∧ j ≤ m2.zs.length ∧ Hid (Below wo.heap.size wo wj)) (fun s _ => m2.zs.length - (intOf s).toNat)
              case atStart => exact ⟨0, rfl, by omega, Lib.hid (Below.refl _ _)⟩
              case round =>
                obtain ⟨j, rfl, hj, Hbj⟩ := hrel
                obtain ⟨xj, -⟩ := bcell Hbj.out
                have u62 := (xj _ _ l6k).trans y62
                have u82 := (xj _ _ l8k).trans y82
                have sj := Hbj.out.size
                have l6j : N6 < wr.heap.size := by omega
                have l8j : N8 < wr.heap.size := by omega
                clear xj
                by_cases hjl : j < m2.zs.length
                · obtain ⟨x, hx⟩ : ∃ x, x = m.zs[k] := ⟨_, rfl⟩
                  obtain ⟨y, hy⟩ : ∃ y, y = m2.zs[j] := ⟨_, rfl⟩
                  have wr7 := Hbk.out.trans (Hbj.out.mono sk)
                  obtain ⟨d0, d1, d2, d3, d4, d5, d6, d7, d8⟩ := (Hza.out.grow wr7).nine k hkl x hx
                  obtain ⟨f0, f1, f2, f3, f4, f5, f6, f7, f8⟩ := (Hzb.out.grow wr7).nine j hjl y hy
                  have lga := (Hza.out.grow wr7).lt
                  have lgb := (Hzb.out.grow wr7).lt
                  have HO : Hid (x.id = y.id → okE x y) := fun e => HE.out x (by rw [hx]; exact List.getElem_mem hkl) y (by rw [hy]; exact List.getElem_mem hjl) e
                  clear hx hy wr7
                  go_wp2_with fail
                  go_upto_region 20 with fail
                  go_cut [11, 12] (fun s11 s12 wx => ∃ a b : Nat, s11 = .pointer (some ⟨a, 0, none⟩) ∧ s12 = .pointer (some ⟨b, 0, none⟩) ∧ Hid (Nine wx a x) ∧ Hid (Nine wx b y) ∧ Hid (Below wr.heap.size wr wx))
                  case first =>
                    refine wp_region_noPanic ?_
                    refine wp_region_held (S := (fun W => Below wr.heap.size wr W ∧ ∀ b o, b < wr.heap.size → W.cell? ⟨b, o, none⟩ = wr.cell? ⟨b, o, none⟩)) (by kernel_rfl) ?_
                    change wpAnyH _ _ _ _ _ _ _ _ (World.drew _)
                    have hS0 := stay_drew wr
                    (refine takeD (i := 0) (v := ?_) 78 rfl rfl (by kernel_rfl) (by kernel_rfl) (by kernel_rfl) (fun _ _ _ h => h) (Or.inl ⟨by rfl, ?_⟩) hS0 ?_; rotate_left 1; (focus (intro w hSw; (try dsimp only at hSw); go_simp; (try with_reducible rfl))); (try simp only [Act.put, List.setIfInBounds_toArray, List.set_cons_zero, List.set_cons_succ]))
                    (refine takeD (i := 1) (v := ?_) 79 rfl rfl (by kernel_rfl) (by kernel_rfl) (by kernel_rfl) (fun _ _ _ h => h) (Or.inl ⟨by rfl, ?_⟩) hS0 ?_; rotate_left 1; (focus (intro w hSw; (try dsimp only at hSw); go_simp; (try with_reducible rfl))); (try simp only [Act.put, List.setIfInBounds_toArray, List.set_cons_zero, List.set_cons_succ]))
                    (refine takeD (i := 2) (v := ?_) 80 rfl rfl (by kernel_rfl) (by kernel_rfl) (by kernel_rfl) (fun _ _ _ h => h) (Or.inl ⟨by rfl, ?_⟩) hS0 ?_; rotate_left 1; (focus (intro w hSw; (try dsimp only at hSw); go_simp; (try with_reducible rfl))); (try simp only [Act.put, List.setIfInBounds_toArray, List.set_cons_zero, List.set_cons_succ]))
                    (refine takeD (i := 3) (v := ?_) 81 rfl rfl (by kernel_rfl) (by kernel_rfl) (by kernel_rfl) (fun _ _ _ h => h) (Or.inl ⟨by rfl, ?_⟩) hS0 ?_; rotate_left 1; (focus (intro w hSw; (try dsimp only at hSw); go_simp; (try with_reducible rfl))); (try simp only [Act.put, List.setIfInBounds_toArray, List.set_cons_zero, List.set_cons_succ]))
                    (refine takeD (i := 4) (v := ?_) 82 rfl rfl (by kernel_rfl) (by kernel_rfl) (by kernel_rfl) (fun _ _ _ h => h) (Or.inl ⟨by rfl, ?_⟩) hS0 ?_; rotate_left 1; (focus (intro w hSw; (try dsimp only at hSw); go_simp; (try with_reducible rfl))); (try simp only [Act.put, List.setIfInBounds_toArray, List.set_cons_zero, List.set_cons_succ]))
                    (refine takeD (i := 5) (v := ?_) 83 rfl rfl (by kernel_rfl) (by kernel_rfl) (by kernel_rfl) (fun _ _ _ h => h) (Or.inl ⟨by rfl, ?_⟩) hS0 ?_; rotate_left 1; (focus (intro w hSw; (try dsimp only at hSw); go_simp; (try with_reducible rfl))); (try simp only [Act.put, List.setIfInBounds_toArray, List.set_cons_zero, List.set_cons_succ]))
                    (refine takeD (i := 6) (v := ?_) 84 rfl rfl (by kernel_rfl) (by kernel_rfl) (by kernel_rfl) (fun _ _ _ h => h) (Or.inl ⟨by rfl, ?_⟩) hS0 ?_; rotate_left 1; (focus (intro w hSw; (try dsimp only at hSw); go_simp; (try with_reducible rfl))); (try simp only [Act.put, List.setIfInBounds_toArray, List.set_cons_zero, List.set_cons_succ]))
                    (refine takeD (i := 7) (v := ?_) 85 rfl rfl (by kernel_rfl) (by kernel_rfl) (by kernel_rfl) (fun _ _ _ h => h) (Or.inl ⟨by rfl, ?_⟩) hS0 ?_; rotate_left 1; (focus (intro w hSw; (try dsimp only at hSw); go_simp; (try with_reducible rfl))); (try simp only [Act.put, List.setIfInBounds_toArray, List.set_cons_zero, List.set_cons_succ]))
                    (refine takeD (i := 8) (v := ?_) 86 rfl rfl (by kernel_rfl) (by kernel_rfl) (by kernel_rfl) (fun _ _ _ h => h) (Or.inl ⟨by rfl, ?_⟩) hS0 ?_; rotate_left 1; (focus (intro w hSw; (try dsimp only at hSw); go_simp; (try with_reducible rfl))); (try simp only [Act.put, List.setIfInBounds_toArray, List.set_cons_zero, List.set_cons_succ]))
                    (refine takeD (i := 9) (v := ?_) 87 rfl rfl (by kernel_rfl) (by kernel_rfl) (by kernel_rfl) (fun _ _ _ h => h) (Or.inl ⟨by rfl, ?_⟩) hS0 ?_; rotate_left 1; (focus (intro w hSw; (try dsimp only at hSw); go_simp; (try with_reducible rfl))); (try simp only [Act.put, List.setIfInBounds_toArray, List.set_cons_zero, List.set_cons_succ]))
                    refine two_at (n := 2) 11 12 (fun b10 b11 => #[true, true, true, true, true, true, true, true, true, true, b10, b11, false, false]) (FI wr undef none none) 10 11 ?_ ?_ ?_ ?_ ?_ ?_ ?_
                    · intro b10 b11 h2; cases b10 <;> cases b11 <;> (first | (exact absurd h2 (by decide)) | kernel_rfl)
                    · intro b11; rfl
                    · intro b10; rfl
                    · exact ⟨(Below.refl _ _).drew, (fun _ e => nomatch e), (fun _ e => nomatch e), (fun _ e => nomatch e), (fun _ e => nomatch e), (fun _ _ e => nomatch e)⟩
                    · intro v11 w3 hI K hK
                      cases v11
                      all_goals
                        simp only [frT, putO, Act.put, List.setIfInBounds_toArray, List.set_cons_zero, List.set_cons_succ] at hK ⊢
                        refine wpOp_step rfl (fun K' hK' => ?_)
                        go_simp
                        exact hK' _ _ (hK _ _ (stay_mk hI.new10.b) hI.new10)
                    · intro v10 w3 hI K hK
                      cases v10
                      all_goals
                        simp only [frT, putO, Act.put, List.setIfInBounds_toArray, List.set_cons_zero, List.set_cons_succ] at hK ⊢
                        refine wpOp_step rfl (fun K' hK' => ?_)
                        go_simp
                        exact hK' _ _ (hK _ _ (stay_mk hI.new11.b) hI.new11)
                    · intro v10 v11 w3 hI
                      obtain ⟨A, rfl, hA, zA⟩ := hI.a _ rfl
                      obtain ⟨B, rfl, hB, zB⟩ := hI.c _ rfl
                      have hAB : A ≠ B := fun e => hI.ne _ _ rfl rfl (by rw [e])
                      have hI3 := hI.b
                      have zA1 : ZB w3 A := zA
                      have h1b := (keeps_setCellsN w3 A 0 (znV x)).below (B := wr.heap.size) (fun q e => by rw [e]; exact hA) hI3.size
                      have hb1 := hI3.trans h1b
                      have zB1 : ZB (w3.setCells A 0 (znV x)) B := ((keeps_setCellsN w3 A 0 _).block B (lt_of_block zB) (fun e => hAB e.symm)).trans zB
                      have h2b := (keeps_setCellsN (w3.setCells A 0 (znV x)) B 0 (znV y)).below (B := wr.heap.size) (fun q e => by rw [e]; exact hB) hb1.size
                      have hb2 := hb1.trans h2b
                      have n1 := (nine_cells zA1 rfl x).far hAB (znV y)
                      have n2 := nine_cells zB1 rfl y
                      simp only [frT, putO, Act.put, List.setIfInBounds_toArray, List.set_cons_zero, List.set_cons_succ]
                      refine wpAnyH_all (rs := [12]) (by kernel_rfl) (by simp) (fun i hi => ?_)
                      obtain rfl : i = 12 := by simpa using hi
                      refine wpOp_step rfl (fun K' hK' => ?_)
                      refine step_store_aggN rfl rfl 39 _ _ rfl A 0 (znV x) 9 rfl rfl rfl zA1.there zoneSize (znV_one _) ?_
                      refine hK' _ _ ⟨stay_mk hb1, ?_⟩
                      clear hK' K'
                      generalize w3.setCells A 0 (znV x) = w4 at *
                      refine wpAnyH_all (rs := [13]) (by kernel_rfl) (by simp) (fun i hi => ?_)
                      obtain rfl : i = 13 := by simpa using hi
                      refine wpOp_step rfl (fun K' hK' => ?_)
                      refine step_store_aggN rfl rfl 39 _ _ rfl B 0 (znV y) 9 rfl rfl rfl zB1.there zoneSize (znV_one _) ?_
                      refine hK' _ _ ⟨stay_mk hb2, ?_⟩
                      clear hK' K'
                      refine wpAnyH_done (by kernel_rfl) ?_ _
                      refine NoPanic.normal ?_
                      generalize w4.setCells B 0 (znV y) = w5 at *
                      go_wp2_with fail
                      go_meet
                      exact ⟨A, B, rfl, rfl, Lib.hid n1, Lib.hid n2, Lib.hid hb2⟩
                  case rest =>
                    obtain ⟨A, B, rfl, rfl, nA, nB, Hbx⟩ := hcut
                    obtain ⟨la, a0, a1, a2, a3, a4, a5, a6, a7, a8, -⟩ := nA.out
                    obtain ⟨lb, b0, b1, b2, b3, b4, b5, b6, b7, b8, -⟩ := nB.out
                    clear d0 d1 d2 d3 d4 d5 d6 d7 d8 f0 f1 f2 f3 f4 f5 f6 f7 f8 nA nB y62 y82 c62 c82 a5 a6 a7 a8 b5 b6 b7 b8
                    by_cases hid : x.id = y.id
                    · obtain ⟨o1, o2, o3⟩ := HO.out hid
                      have e1 : (x.id == y.id) = true := by rw [beq_iff_eq]; exact hid
                      have e2 : decide (y.epoch < x.epoch) = false := by rw [decide_eq_false_iff_not]; exact o1
                      by_cases hle : y.epoch ≤ x.epoch
                      · have q1 : y.owner = x.owner := Decidable.byContradiction fun h => o2 ⟨h, hle⟩
                        have q2 : y.fr = x.fr := Decidable.byContradiction fun h => o3 ⟨.inl h, hle⟩
                        have q3 : y.to = x.to := Decidable.byContradiction fun h => o3 ⟨.inr h, hle⟩
                        have e3 : (y.owner != x.owner) = false := by rw [bne_eq_false_iff_eq]; exact q1
                        rw [q2] at b1
                        rw [q3] at b2
                        clear hid o1 o2 o3 hle q1 q2 q3
                        (go_wp2_with fail); all_goals (go_roundw; (case rel => exact ⟨j + 1, by go_num, by omega, Lib.hid (Hbj.out.trans (Hbx.out.mono sj))⟩); (case measure => (simp [intOf]; omega)))
                      · have e4 : decide (y.epoch ≤ x.epoch) = false := by rw [decide_eq_false_iff_not]; exact hle
                        clear hid o1 o2 o3 hle
                        by_cases q1 : y.owner = x.owner
                        · have e3 : (y.owner != x.owner) = false := by rw [bne_eq_false_iff_eq]; exact q1
                          clear q1
                          (go_wp2_with fail); all_goals (go_roundw; (case rel => exact ⟨j + 1, by go_num, by omega, Lib.hid (Hbj.out.trans (Hbx.out.mono sj))⟩); (case measure => (simp [intOf]; omega)))
                        · have e3 : (y.owner != x.owner) = true := by rw [bne_iff_ne]; exact q1
                          clear q1
                          (go_wp2_with fail); all_goals (go_roundw; (case rel => exact ⟨j + 1, by go_num, by omega, Lib.hid (Hbj.out.trans (Hbx.out.mono sj))⟩); (case measure => (simp [intOf]; omega)))
                    · have e1 : (x.id == y.id) = false := by rw [beq_eq_false_iff_ne]; exact hid
                      clear hid
                      (go_wp2_with fail); all_goals (go_roundw; (case rel => exact ⟨j + 1, by go_num, by omega, Lib.hid (Hbj.out.trans (Hbx.out.mono sj))⟩); (case measure => (simp [intOf]; omega)))
                · go_wp2_with fail
                  go_roundw
                  case rel => exact ⟨k + 1, by go_num, by omega, Lib.hid (Hbk.out.trans (Hbj.out.mono sk))⟩
                  case measure => simp [intOf]; omega
            · go_wp2_with fail
              go_roundw
              case rel => exact ⟨i + 1, m2, by go_num, by omega, by omega, HI2, Lib.hid ⟨_, _, (((((S7.out.grow Hbk.out).drop.drop).pull (A := [_, _])).drop).pull (A := [_, _])).drop⟩⟩
              case measure => simp [intOf]; omega
      · have e0 : (decide ((i : Int) < l.length) && decide ((i : Int) < 100)) = false := by
          rw [Bool.and_eq_false_iff, decide_eq_false_iff_not, decide_eq_false_iff_not]; omega
        by_cases hlt : i < l.length
        · have e1 : decide ((i : Int) < 100) = false := by rw [decide_eq_false_iff_not]; omega
          go_wp2_with fail
          refine (known_any _).mono ?_
          rintro e w3 ⟨rfl, hb3⟩
          have w3_b := S2.out.b.trans (hb3.mono S2.out.b.size)
          clear hb3
          go_wp2_with fail
          go_ret
          exact ⟨rfl, w3_b⟩
        · go_wp2_with fail
          refine (known_any _).mono ?_
          rintro e w3 ⟨rfl, hb3⟩
          have w3_b := S2.out.b.trans (hb3.mono S2.out.b.size)
          clear hb3
          go_wp2_with fail
          go_ret
          exact ⟨rfl, w3_b⟩
namespace DirEpochsLift
open Go.ChangeShapes Go.WideShapes Go.ChangeAt Go.RowKit Go.Joins Go.Deep
open Go.ChangeMaps (open_string shut_string)

theorem own : ownKnob Try.prog.godebug = none := by kernel_rfl
theorem laidOut : laidOutB Try.prog = true := by kernel_rfl

set_option maxHeartbeats 1000000 in
set_option maxRecDepth 100000 in
theorem lifted (os : Os) (started : os.Started) (H : Type) (enc : TypeId × Value → H) :
    ReturnsInHanded {} Try.checked os 3 .any (Rows.dirEpochsSpec.pre6 enc Try.prog Try.f3 Rows.dirEpochsRow.domain false) (Rows.dirEpochsSpec.post enc Try.prog Try.f3 false true false false) := by
  refine returnsInHanded_of_change (C := Try.checked) own started (by kernel_rfl) Try.func3
    (ChangeSpec.witness6 (enc := enc) (C := Try.checked) false ⟨#[], #[.slice none 0 0], []⟩ 8 (by kernel_rfl) (by kernel_rfl) (by kernel_rfl) (by kernel_rfl)) ?_
  intro W base args ds gs before hval0 hW hcnd _
  have hval : ∀ (j : Nat) t v, Try.f3.params[j]? = some t → args[j]? = some v → Value.okWide Try.prog W .any base t v := hval0
  have hW' := hW
  obtain ⟨p, q, hA0, hV, rfl, hfz, hnd⟩ := hW
  have hA : DataW.TrodAll enc Try.prog W 0 (fun _ => true) true Try.f3.params.toList args.toList ds p := hA0
  rw [Try.params3] at hA hval
  obtain ⟨v0, vs0, d0, ds0, p0, q0, hargs, rfl, rfl, h0, r0⟩ := trodAll_cons hA
  obtain ⟨rfl, rfl, rfl⟩ := trodAll_nil r0
  obtain rfl : args = #[v0] := by cases args; simp_all
  obtain ⟨rfl, rfl⟩ := trodVars_none hV
  have k0 := h0
  have lt0 : ∀ x ∈ p0, x.block < W.heap.size := by obtain ⟨m, hm⟩ := k0; exact DataW.trod_lt m _ _ _ hm
  have post : ∀ e W', e = Ending.returned (.bool true) → Below W.heap.size W W' → ∃ v, e = .returned v ∧ Rows.dirEpochsSpec.post enc Try.prog Try.f3 false true false false W #[v0] v W' := by
    intro e W' he bel
    subst he
    exact ⟨_, rfl, _, _, _, [], _, [], hW', trodAll_mk1 (shut_bool Try.underlying4 _), (trodAll_cons_mk (Below.trod laidOut (by kernel_rfl) (of_decide_eq_true (by kernel_rfl)) k0 bel lt0) trodAll_mk0), rfl, bel.frame _, fun h => by cases h⟩
  clear hW' hcnd hfz hnd hA0 hA hval0
  obtain ⟨ao, cap, l, rfl, hm, hr⟩ := open_chs (okWide_slice Try.underlying22 (hval 0 22 v0 rfl rfl)) h0
  exact (epochs_walk ao cap l W hm hr).mono fun e W' ⟨he, bel⟩ => post e W' he bel

theorem over : Rows.dirEpochsRow.holds Try.pinned (OpenSpec.ofChange Rows.dirEpochsSpec) :=
  OpenClaim.holds_of_wide 3 Try.f3 rfl rfl rfl rfl rfl rfl rfl ⟨rfl, rfl, rfl, rfl, rfl⟩ rfl rfl rfl rfl rfl (by kernel_rfl) Try.func3 (by kernel_rfl)
    (of_decide_eq_true (by kernel_rfl)) (by unfold Func.isWrapper; first | (rw [if_pos (by decide +kernel)]; kernel_rfl) | (rw [if_neg (by decide +kernel)]; exact ⟨rfl, rfl⟩))
    (fun os started H enc _ => lifted os started H enc)
end DirEpochsLift

/-- The statement. -/
theorem dirEpochs_holds : Rows.DirEpochsSaid := DirEpochsLift.over
#print axioms dirEpochs_holds
end Go.Proofs.Ytobnibdeimiinaa
