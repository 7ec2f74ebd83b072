/- The document's Spoil: the walk. -/
import Derived.Test.YtcboflabjdiadaaRNp
namespace Go.Proofs.Ytcboflabjdiadaa
open Go.RowKit

theorem ref_marked {W w : World} {R : List Th} {p g rc : Nat} {l : List Ms} {i : Nat} (hi : i < l.length) (h : St W w (netrefL W.heap.size p (some ⟨g, 0, none⟩) rc l ++ R)) : OwnB (w.setCell ⟨g, i * 4 + 3, none⟩ (.bool true)) W.heap.size l[i].ao l[i].cap l[i].bs := by
  have S2 := h.refCell i hi 3 (by decide) (.bool true) ⟨l[i].f, l[i].t, l[i].ao, l[i].cap, l[i].bs, true⟩ rfl
  exact St.mem (t := thD W.heap.size l[i]) S2 (List.mem_cons_of_mem _ (List.mem_append.2 (.inl (List.mem_map.2 ⟨_, List.getElem_mem hi, rfl⟩))))
def RSpoilPost (W : World) (R : List Th) (p : Nat) (ro : Option Addr) (rc : Nat) (l : List Ms) (i : Nat) (m : Ms) (k : Nat) (y : UInt8) (e : Ending) (w' : World) : Prop :=
  e = .returned (.bool true) ∧ ∃ co cc, St W w' (netrefL W.heap.size p ro rc (l.set i ⟨m.f, m.t, co, cc, m.bs.set k ((m.bs[k]?.getD 0) ^^^ y), true⟩) ++ R)
set_option maxRecDepth 20000 in
theorem rspoil_none (W w : World) (R : List Th) (p : Nat) (ro : Option Addr) (rc : Nat) (l : List Ms) (pick at_ : Int) (y : UInt8) (h : St W w (netrefL W.heap.size p ro rc l ++ R)) (hl : l.length = 0) :
    Calls Try.prog 33 #[.pointer (some ⟨p, 0, none⟩), .int .i64 pick, .int .i64 at_, .int .u8 (y.toNat : Int)] w fun e w' => e = .returned (.bool false) ∧ Below w.heap.size w w' := by
  have hT : (thNetref W.heap.size p ro rc l).T w := h.head
  obtain ⟨c0, f0⟩ := cell_of_one hT.1
  have hplt := lt_of_block hT.1
  obtain ⟨n, hn⟩ : ∃ n, n = l.length := ⟨_, rfl⟩
  rw [← hn] at c0 hl
  have e1 : ((n : Int) == 0) = true := by rw [beq_iff_eq]; omega
  have e2 : (n == 0) = true := by rw [beq_iff_eq]; exact hl
  clear h hT hn hl
  go_enter Try.func33, Try.ntmps33
  go_wp2_with fail
  go_ret
  exact ⟨rfl, (by repeat (first | with_reducible exact Below.refl _ _ | with_reducible assumption | with_reducible refine Below.drew ?_ | with_reducible refine below_drawn ?_ | with_reducible refine Below.alloc ?_ (by first | omega | (simp; done) | (simp; omega) | (simp at *; omega)) _ | with_reducible refine Below.setCell ?_ (by first | omega | (simp; done) | (simp; omega) | (simp at *; omega)) _ | with_reducible refine Below.trans ?_ (Below.mono (by assumption) (by first | omega | (simp; done) | (simp; omega) | (simp at *; omega)))))⟩
set_option maxRecDepth 20000 in
set_option maxHeartbeats 4000000 in
theorem rspoil_zero (W w : World) (R : List Th) (p : Nat) (ro : Option Addr) (rc : Nat) (l : List Ms) (pick at_ : Int) (y : UInt8) (i : Nat) (hi : i < l.length) (hpi : i = pickOf l.length pick) (h : St W w (netrefL W.heap.size p ro rc l ++ R)) (hm : l.length ≤ 1024)
    (hy : y = 0)
    : Calls Try.prog 33 #[.pointer (some ⟨p, 0, none⟩), .int .i64 pick, .int .i64 at_, .int .u8 (y.toNat : Int)] w fun e w' => e = .returned (.bool false) ∧ Below w.heap.size w w' := by
  have hT : (thNetref W.heap.size p ro rc l).T w := h.head
  obtain ⟨g, rfl, hg⟩ := row_form hT.2.1 (by omega)
  obtain ⟨c0, f0⟩ := cell_of_one hT.1
  have hplt := lt_of_block hT.1
  have H := Lib.hid h
  obtain ⟨f, t, ao, cap, bs, sp, hq⟩ : ∃ f t ao cap bs sp, (⟨f, t, ao, cap, bs, sp⟩ : Ms) = l[i] := ⟨_, _, _, _, _, _, rfl⟩
  subst hy
  have hyz : ((0 : UInt8).toNat : Int) = 0 := rfl
  rw [hyz]
  have Hq := Lib.hid hq
  obtain ⟨n, hn⟩ : ∃ n, n = l.length := ⟨_, rfl⟩
  have hn0 : ¬ (n : Int) = 0 := by omega
  have hne : ((n : Int) == 0) = false := by rw [beq_eq_false_iff_ne]; exact hn0
  have hn1 : ¬ n = 0 := by omega
  obtain ⟨m, hm0⟩ : ∃ m : Nat, m = (max 0 pick).toNat := ⟨_, rfl⟩
  have hmax : max (0 : Int) pick = m := by rw [hm0]; omega
  have hp : i = m % n := by rw [hpi, hn]; unfold pickOf; rw [← hm0]
  have ht : ((m : Int).tmod (n : Int)) = (i : Int) := by rw [Int.tmod_eq_emod_of_nonneg (by omega), hp]; rfl
  have hi63 : (i : Int) < n := by omega
  have hi0 : (0 : Int) ≤ i := by omega
  rw [← hn] at hm c0
  have Hn := Lib.hid hn
  clear h hT hq hpi hm0 hp hn
  go_enter Try.func33, Try.ntmps33
  go_wp2_with fail
  go_ret
  exact ⟨rfl, (by repeat (first | with_reducible exact Below.refl _ _ | with_reducible assumption | with_reducible refine Below.drew ?_ | with_reducible refine below_drawn ?_ | with_reducible refine Below.alloc ?_ (by first | omega | (simp; done) | (simp; omega) | (simp at *; omega)) _ | with_reducible refine Below.setCell ?_ (by first | omega | (simp; done) | (simp; omega) | (simp at *; omega)) _ | with_reducible refine Below.trans ?_ (Below.mono (by assumption) (by first | omega | (simp; done) | (simp; omega) | (simp at *; omega)))))⟩
set_option maxRecDepth 20000 in
set_option maxHeartbeats 4000000 in
theorem rspoil_spoilt (W w : World) (R : List Th) (p : Nat) (ro : Option Addr) (rc : Nat) (l : List Ms) (pick at_ : Int) (y : UInt8) (i : Nat) (hi : i < l.length) (hpi : i = pickOf l.length pick) (h : St W w (netrefL W.heap.size p ro rc l ++ R)) (hm : l.length ≤ 1024)
    (hy : y ≠ 0) (hsp : l[i].sp = true)
    : Calls Try.prog 33 #[.pointer (some ⟨p, 0, none⟩), .int .i64 pick, .int .i64 at_, .int .u8 (y.toNat : Int)] w fun e w' => e = .returned (.bool false) ∧ Below w.heap.size w w' := by
  have hT : (thNetref W.heap.size p ro rc l).T w := h.head
  obtain ⟨g, rfl, hg⟩ := row_form hT.2.1 (by omega)
  obtain ⟨c0, f0⟩ := cell_of_one hT.1
  have hplt := lt_of_block hT.1
  have H := Lib.hid h
  obtain ⟨f, t, ao, cap, bs, sp, hq⟩ : ∃ f t ao cap bs sp, (⟨f, t, ao, cap, bs, sp⟩ : Ms) = l[i] := ⟨_, _, _, _, _, _, rfl⟩
  have hyz : (((y.toNat : Int)) == 0) = false := by
    rw [beq_eq_false_iff_ne]
    intro e
    exact hy (UInt8.toNat_inj.1 (by simpa using e))
  rw [← hq] at hsp
  simp only at hsp
  subst hsp
  have Hq := Lib.hid hq
  obtain ⟨n, hn⟩ : ∃ n, n = l.length := ⟨_, rfl⟩
  have hn0 : ¬ (n : Int) = 0 := by omega
  have hne : ((n : Int) == 0) = false := by rw [beq_eq_false_iff_ne]; exact hn0
  have hn1 : ¬ n = 0 := by omega
  obtain ⟨m, hm0⟩ : ∃ m : Nat, m = (max 0 pick).toNat := ⟨_, rfl⟩
  have hmax : max (0 : Int) pick = m := by rw [hm0]; omega
  have hp : i = m % n := by rw [hpi, hn]; unfold pickOf; rw [← hm0]
  have ht : ((m : Int).tmod (n : Int)) = (i : Int) := by rw [Int.tmod_eq_emod_of_nonneg (by omega), hp]; rfl
  have hi63 : (i : Int) < n := by omega
  have hi0 : (0 : Int) ≤ i := by omega
  rw [← hn] at hm c0
  have Hn := Lib.hid hn
  clear h hT hq hpi hm0 hp hn
  go_enter Try.func33, Try.ntmps33
  go_wp2_with fail
  (refine wp_region_gr (by kernel_rfl) (by kernel_rfl) ?_; (repeat (go_big_quiet_step (fail))); refine wpQuiet_nil ?_; intro _ hw'; obtain ⟨g', hw''⟩ := hw'; subst hw'')
  obtain ⟨wv, hwv⟩ : ∃ wv, wv = gr w g' := ⟨_, rfl⟩
  have hbv : Below w.heap.size w wv := hwv ▸ gr_below w g'
  rw [← hwv]
  have S2 := H.out.grow hbv
  obtain ⟨c1, c2, c3, c4⟩ := ref_cells S2.head i hi
  rw [← Hq.out] at c1 c2 c3 c4
  simp only at c1 c2 c3 c4
  clear hwv S2
  go_wp2_with fail
  go_ret
  exact ⟨rfl, (by repeat (first | with_reducible exact Below.refl _ _ | with_reducible assumption | with_reducible refine Below.drew ?_ | with_reducible refine below_drawn ?_ | with_reducible refine Below.alloc ?_ (by first | omega | (simp; done) | (simp; omega) | (simp at *; omega)) _ | with_reducible refine Below.setCell ?_ (by first | omega | (simp; done) | (simp; omega) | (simp at *; omega)) _ | with_reducible refine Below.trans ?_ (Below.mono (by assumption) (by first | omega | (simp; done) | (simp; omega) | (simp at *; omega)))))⟩
set_option maxRecDepth 20000 in
set_option maxHeartbeats 4000000 in
theorem rspoil_empty (W w : World) (R : List Th) (p : Nat) (ro : Option Addr) (rc : Nat) (l : List Ms) (pick at_ : Int) (y : UInt8) (i : Nat) (hi : i < l.length) (hpi : i = pickOf l.length pick) (h : St W w (netrefL W.heap.size p ro rc l ++ R)) (hm : l.length ≤ 1024)
    (hy : y ≠ 0) (hsp : l[i].sp = false) (hb : l[i].bs.length = 0)
    : Calls Try.prog 33 #[.pointer (some ⟨p, 0, none⟩), .int .i64 pick, .int .i64 at_, .int .u8 (y.toNat : Int)] w fun e w' => e = .returned (.bool false) ∧ Below w.heap.size w w' := by
  have hT : (thNetref W.heap.size p ro rc l).T w := h.head
  obtain ⟨g, rfl, hg⟩ := row_form hT.2.1 (by omega)
  obtain ⟨c0, f0⟩ := cell_of_one hT.1
  have hplt := lt_of_block hT.1
  have H := Lib.hid h
  obtain ⟨f, t, ao, cap, bs, sp, hq⟩ : ∃ f t ao cap bs sp, (⟨f, t, ao, cap, bs, sp⟩ : Ms) = l[i] := ⟨_, _, _, _, _, _, rfl⟩
  have hyz : (((y.toNat : Int)) == 0) = false := by
    rw [beq_eq_false_iff_ne]
    intro e
    exact hy (UInt8.toNat_inj.1 (by simpa using e))
  rw [← hq] at hsp
  simp only at hsp
  subst hsp
  rw [← hq] at hb
  simp only at hb
  have hbz : ((bs.length : Int) == 0) = true := by simp; exact List.length_eq_zero_iff.1 hb
  have Hq := Lib.hid hq
  obtain ⟨n, hn⟩ : ∃ n, n = l.length := ⟨_, rfl⟩
  have hn0 : ¬ (n : Int) = 0 := by omega
  have hne : ((n : Int) == 0) = false := by rw [beq_eq_false_iff_ne]; exact hn0
  have hn1 : ¬ n = 0 := by omega
  obtain ⟨m, hm0⟩ : ∃ m : Nat, m = (max 0 pick).toNat := ⟨_, rfl⟩
  have hmax : max (0 : Int) pick = m := by rw [hm0]; omega
  have hp : i = m % n := by rw [hpi, hn]; unfold pickOf; rw [← hm0]
  have ht : ((m : Int).tmod (n : Int)) = (i : Int) := by rw [Int.tmod_eq_emod_of_nonneg (by omega), hp]; rfl
  have hi63 : (i : Int) < n := by omega
  have hi0 : (0 : Int) ≤ i := by omega
  rw [← hn] at hm c0
  have Hn := Lib.hid hn
  clear h hT hq hpi hm0 hp hn
  go_enter Try.func33, Try.ntmps33
  go_wp2_with fail
  (refine wp_region_gr (by kernel_rfl) (by kernel_rfl) ?_; (repeat (go_big_quiet_step (fail))); refine wpQuiet_nil ?_; intro _ hw'; obtain ⟨g', hw''⟩ := hw'; subst hw'')
  obtain ⟨wv, hwv⟩ : ∃ wv, wv = gr w g' := ⟨_, rfl⟩
  have hbv : Below w.heap.size w wv := hwv ▸ gr_below w g'
  rw [← hwv]
  have S2 := H.out.grow hbv
  obtain ⟨c1, c2, c3, c4⟩ := ref_cells S2.head i hi
  rw [← Hq.out] at c1 c2 c3 c4
  simp only at c1 c2 c3 c4
  clear hwv S2
  go_wp2_with fail
  go_ret
  exact ⟨rfl, (by repeat (first | with_reducible exact Below.refl _ _ | with_reducible assumption | with_reducible refine Below.drew ?_ | with_reducible refine below_drawn ?_ | with_reducible refine Below.alloc ?_ (by first | omega | (simp; done) | (simp; omega) | (simp at *; omega)) _ | with_reducible refine Below.setCell ?_ (by first | omega | (simp; done) | (simp; omega) | (simp at *; omega)) _ | with_reducible refine Below.trans ?_ (Below.mono (by assumption) (by first | omega | (simp; done) | (simp; omega) | (simp at *; omega)))))⟩
set_option maxRecDepth 20000 in
set_option maxHeartbeats 4000000 in
theorem rspoil_yes (W w : World) (R : List Th) (p : Nat) (ro : Option Addr) (rc : Nat) (l : List Ms) (pick at_ : Int) (y : UInt8) (i : Nat) (hi : i < l.length) (hpi : i = pickOf l.length pick) (h : St W w (netrefL W.heap.size p ro rc l ++ R)) (hm : l.length ≤ 1024)
    (hy : y ≠ 0) (hsp : l[i].sp = false) (hb : l[i].bs.length ≠ 0) (hB : l[i].bs.length ≤ 140737488351232)
    : Calls Try.prog 33 #[.pointer (some ⟨p, 0, none⟩), .int .i64 pick, .int .i64 at_, .int .u8 (y.toNat : Int)] w (RSpoilPost W R p ro rc l i l[i] (pickOf l[i].bs.length at_) y) := by
  have hT : (thNetref W.heap.size p ro rc l).T w := h.head
  obtain ⟨g, rfl, hg⟩ := row_form hT.2.1 (by omega)
  obtain ⟨c0, f0⟩ := cell_of_one hT.1
  have hplt := lt_of_block hT.1
  have H := Lib.hid h
  obtain ⟨f, t, ao, cap, bs, sp, hq⟩ : ∃ f t ao cap bs sp, (⟨f, t, ao, cap, bs, sp⟩ : Ms) = l[i] := ⟨_, _, _, _, _, _, rfl⟩
  have hyz : (((y.toNat : Int)) == 0) = false := by
    rw [beq_eq_false_iff_ne]
    intro e
    exact hy (UInt8.toNat_inj.1 (by simpa using e))
  rw [← hq] at hsp
  simp only at hsp
  subst hsp
  rw [← hq] at hb hB
  simp only at hb hB
  have hbz : ((bs.length : Int) == 0) = false := by rw [beq_eq_false_iff_ne]; omega
  have Hq := Lib.hid hq
  obtain ⟨n, hn⟩ : ∃ n, n = l.length := ⟨_, rfl⟩
  have hn0 : ¬ (n : Int) = 0 := by omega
  have hne : ((n : Int) == 0) = false := by rw [beq_eq_false_iff_ne]; exact hn0
  have hn1 : ¬ n = 0 := by omega
  obtain ⟨m, hm0⟩ : ∃ m : Nat, m = (max 0 pick).toNat := ⟨_, rfl⟩
  have hmax : max (0 : Int) pick = m := by rw [hm0]; omega
  have hp : i = m % n := by rw [hpi, hn]; unfold pickOf; rw [← hm0]
  have ht : ((m : Int).tmod (n : Int)) = (i : Int) := by rw [Int.tmod_eq_emod_of_nonneg (by omega), hp]; rfl
  have hi63 : (i : Int) < n := by omega
  have hi0 : (0 : Int) ≤ i := by omega
  rw [← hn] at hm c0
  have Hn := Lib.hid hn
  clear h hT hq hpi hm0 hp hn
  unfold RSpoilPost
  go_enter Try.func33, Try.ntmps33
  go_wp2_with fail
  (refine wp_region_gr (by kernel_rfl) (by kernel_rfl) ?_; (repeat (go_big_quiet_step (fail))); refine wpQuiet_nil ?_; intro _ hw'; obtain ⟨g', hw''⟩ := hw'; subst hw'')
  obtain ⟨wv, hwv⟩ : ∃ wv, wv = gr w g' := ⟨_, rfl⟩
  have hbv : Below w.heap.size w wv := hwv ▸ gr_below w g'
  rw [← hwv]
  have S2 := H.out.grow hbv
  obtain ⟨c1, c2, c3, c4⟩ := ref_cells S2.head i hi
  rw [← Hq.out] at c1 c2 c3 c4
  simp only at c1 c2 c3 c4
  have fR : ∀ j, wv.frozen? ⟨g, j, none⟩ = false := fun j => by
    have hT : (thNetref W.heap.size p (some ⟨g, 0, none⟩) rc l).T wv := S2.head
    simpa using hT.2.1.frozenAt j
  have f1 := fR (i * 4)
  have f2 := fR (i * 4 + 1)
  have f3 := fR (i * 4 + 2)
  have f4 := fR (i * 4 + 3)
  have hgs : g < wv.heap.size := lt_of_cellN c1
  have HS2 := Lib.hid S2
  clear S2 hwv hbv fR
  go_wp2_with fail
  have hO0 := ref_marked hi HS2.out
  rw [← Hq.out] at hO0
  simp only at hO0
  refine calls_name fun wa hwa => ?_
  have hz : wa.heap.size = wv.heap.size := by rw [hwa]; simp
  have hgs' : g < wa.heap.size := by omega
  have d1 : wa.cell? ⟨g, i * 4, none⟩ = some (.int .i64 f) := by rw [hwa]; go_simp
  have d2 : wa.cell? ⟨g, i * 4 + 1, none⟩ = some (.int .i64 t) := by rw [hwa]; go_simp
  have d3 : wa.cell? ⟨g, i * 4 + 2, none⟩ = some (.slice ao bs.length cap) := by rw [hwa]; go_simp
  have e1 : wa.frozen? ⟨g, i * 4, none⟩ = false := by rw [hwa]; go_simp
  have e2 : wa.frozen? ⟨g, i * 4 + 1, none⟩ = false := by rw [hwa]; go_simp
  have e3 : wa.frozen? ⟨g, i * 4 + 2, none⟩ = false := by rw [hwa]; go_simp
  have hO1 : OwnB wa W.heap.size ao cap bs := by rw [hwa]; exact hO0
  have Hwa := Lib.hid hwa
  have Hz := Lib.hid hz
  clear hwa hz hO0 f1 f2 f3 f4 c1 c2 c3 c4
  refine (rownM_any f t ao cap bs wa hO1.none hO1.at hB).mono ?_
  rintro e w9 ⟨co, cc, rfl, ho, hb9⟩
  obtain ⟨bb, rfl, hbl, hblt, hrow⟩ := OwnB.row ho (by omega)
  obtain ⟨xc, xf⟩ := bcell hb9
  have x1 := (xc _ _ hgs').trans d1
  have x2 := (xc _ _ hgs').trans d2
  have x3 := (xc _ _ hgs').trans d3
  have y1 := (xf _ _ hgs').trans e1
  have y2 := (xf _ _ hgs').trans e2
  have y3 := (xf _ _ hgs').trans e3
  have S5' := St.rspoil (co := some ⟨bb, 0, none⟩) (cc := cc) (w9 := w9) hi HS2.out (by rw [← Hwa.out, ← Hz.out]; exact hb9) (by rw [← Hz.out, ← Hq.out]; exact ho)
  rw [← Hq.out] at S5'
  simp only at S5'
  have S5 := Lib.hid S5'
  clear S5'
  have hne : bb ≠ g := by omega
  clear ho hb9 hrow hO1 xc xf d1 d2 d3 e1 e2 e3
  go_wp2_with fail
  refine wp_name fun wb hwb => ?_
  have S6 : St W wb (thD W.heap.size ⟨f, t, some ⟨bb, 0, none⟩, cc, bs, true⟩ :: (thNetref W.heap.size p (some ⟨g, 0, none⟩) rc (l.set i ⟨f, t, some ⟨bb, 0, none⟩, cc, bs, true⟩) :: ((l.eraseIdx i).map (thD W.heap.size) ++ R))) := by rw [hwb]; exact S5.out
  have hll : i < (l.set i (⟨f, t, some ⟨bb, 0, none⟩, cc, bs, true⟩ : Ms)).length := by simpa using hi
  have hT6 : (thNetref W.heap.size p (some ⟨g, 0, none⟩) rc (l.set i ⟨f, t, some ⟨bb, 0, none⟩, cc, bs, true⟩)).T wb := (S6.pull (A := [_])).head
  obtain ⟨-, -, v3, -⟩ := ref_cells hT6 i hll
  rw [List.getElem_set_self] at v3
  simp only at v3
  obtain ⟨k, hk⟩ : ∃ k, k = pickOf bs.length at_ := ⟨_, rfl⟩
  have hkl : k < bs.length := hk ▸ pickOf_lt (by omega) at_
  have hO6 : OwnB wb W.heap.size (some ⟨bb, 0, none⟩) cc bs := S6.head
  obtain ⟨bb', hbe, -, hbblt, hrow⟩ := OwnB.row hO6 (by omega)
  cases hbe
  have b0 := hrow k hkl
  rw [Nat.zero_add] at b0
  have bf : wb.frozen? ⟨bb, k, none⟩ = false := by simpa using World.ownsRow.frozenAt hO6 k
  obtain ⟨x, hx⟩ : ∃ x, x = bs[k] ^^^ y := ⟨_, rfl⟩
  obtain ⟨d, hd⟩ : ∃ d, d = bs[k] := ⟨_, rfl⟩
  rw [← hd] at b0 hx
  have hxb := xor_byteN d y
  rw [← hx] at hxb
  have hgb : g < wb.heap.size := lt_of_cellN v3
  have S7 := Lib.hid (S6.rspoilt (k := k) hi x)
  have hkx : ((bs[k]?.getD 0) ^^^ y) = x := by rw [hx, hd, List.getElem?_eq_getElem hkl]; rfl
  obtain ⟨m2, hm2⟩ : ∃ m2 : Nat, m2 = (max 0 at_).toNat := ⟨_, rfl⟩
  have hmax2 : max (0 : Int) at_ = m2 := by rw [hm2]; omega
  have Hbl := Lib.hid (rfl : bs.length = bs.length)
  obtain ⟨n2, hn2⟩ : ∃ n2, n2 = bs.length := ⟨_, rfl⟩
  have hkm : k = m2 % n2 := by rw [hk, hn2, hm2]; rfl
  rw [← hn2] at v3 hb hbz hkl
  have hn20 : ¬ (n2 : Int) = 0 := by omega
  have htm : ((m2 : Int).tmod (n2 : Int)) = k := by rw [Int.tmod_eq_emod_of_nonneg (by omega), hkm]; rfl
  have hkl2 : (k : Int) < n2 := by omega
  have Hk := Lib.hid hk
  have Hkx := Lib.hid hkx
  clear hk hkx hx hd hm2 hkm hn2 hO6 hrow hT6 S6 hwb S5 x1 x2 x3 y1 y2 y3
  go_still_tail 19, (by kernel_rfl)
  change wpList _ _ _ _ _ (World.drew _)
  go_wp2_with fail
  go_ret
  rw [← Hq.out]
  simp only
  rw [← Hk.out, Hkx.out]
  exact ⟨rfl, _, _, S7.out.drew⟩
end Go.Proofs.Ytcboflabjdiadaa
