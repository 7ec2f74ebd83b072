/- OctetJoins: rows joined in two parts, and these joined, are all of them joined. -/
import Derived.Test.YtofkjogjnhnchaaSpoilC
namespace Go.Proofs.Ytofkjogjnhnchaa
open Go.RowKit Go.Joins

theorem rowInfo : (Try.prog.info? 23).map (fun i => (i.zero, i.size, i.bytes)) = some (some (.slice none 0 0), 1, 24) := by kernel_rfl
def rowsV (L : List RowR) : List Value := L.map fun r => .slice r.ao r.bs.length r.cap
theorem rowsV_length (L : List RowR) : (rowsV L).length = L.length := by simp [rowsV]
theorem rowsV_get (L : List RowR) (i : Nat) (hi : i < L.length) : (rowsV L)[i]? = some (.slice L[i].ao L[i].bs.length L[i].cap) := by simp [rowsV, hi]
theorem rowsV_one (L : List RowR) : ∀ u ∈ rowsV L, u.oneCell' = true := by
  intro u hu
  simp only [rowsV, List.mem_map] at hu
  obtain ⟨c, -, rfl⟩ := hu
  rfl
theorem rowsV_cells {w : World} {D : Nat → Prop} {ao : Option Addr} {L : List RowR} (h : RsAt w D ao L) : ∀ ad, ao = some ad → ∀ j u, (rowsV L)[j]? = some u → w.cell? (ad.add j) = some u := by
  intro ad had j u hu
  obtain ⟨hj, hu⟩ := List.getElem?_eq_some_iff.1 hu
  rw [rowsV_length] at hj
  obtain ⟨b, off, e, -, -, hr⟩ := h (by omega)
  rw [had] at e
  simp only [Option.some.injEq] at e
  subst e
  rw [add_none, (hr j hj).c, ← hu]
  simp [rowsV]
theorem flatR_append (A B : List RowR) : flatR (A ++ B) = flatR A ++ flatR B := by simp [flatR]
/-- Rows whose headers lie in a row of the call's own, their bytes where they were. -/
theorem rs_own {W w : World} {g cap : Nat} {A B : List RowR} {ao bo : Option Addr} (hb : Below W.heap.size W w) (ha : RsAt W (fun x => x < W.heap.size) ao A) (hbb : RsAt W (fun x => x < W.heap.size) bo B) {aw : Option Addr} (h : w.ownsRow g 23 1 (.slice aw (A.length + B.length) cap) (A.length + B.length) (rowsV (A ++ B))) : RsAt w (fun _ => True) aw (A ++ B) := by
  intro hp
  rw [List.length_append] at hp
  rcases h.2 with ⟨h1, h2⟩ | ⟨g', c, cur, hv, -, hh, -⟩
  · omega
  · simp only [Value.slice.injEq] at hv
    obtain ⟨rfl, -, rfl⟩ := hv
    refine ⟨g', 0, rfl, lt_of_block hh, trivial, fun i hi => ?_⟩
    have hc := h.cellAt i (by rw [List.length_append] at hi; omega)
    rw [rowsV_get _ i hi] at hc
    have hrow : ∀ (r : RowR), r = (A ++ B)[i] → r.bs.length ≤ r.cap ∧ r.cap ≤ 9223372036854775807 ∧ (r.ao = none → r.bs.length = 0 ∧ r.cap = 0) ∧ BIn w (fun _ => True) r.ao r.bs := by
      intro r hr
      have key : ∀ (L : List RowR) (lo : Option Addr), RsAt W (fun x => x < W.heap.size) lo L → r ∈ L → r.bs.length ≤ r.cap ∧ r.cap ≤ 9223372036854775807 ∧ (r.ao = none → r.bs.length = 0 ∧ r.cap = 0) ∧ BIn w (fun _ => True) r.ao r.bs := by
        intro L lo hL hm
        obtain ⟨k, hk, e⟩ := List.getElem_of_mem hm
        obtain ⟨b, off, -, -, -, hr2⟩ := hL (by omega)
        have hq := hr2 k hk
        rw [e] at hq
        exact ⟨hq.le, hq.cm, hq.n0, (hq.at_.keeps (Keeps.of_below hb) (fun x h1 h2 => by omega)).weak (fun _ _ _ => trivial)⟩
      have hm : r ∈ A ++ B := hr ▸ List.getElem_mem hi
      rcases List.mem_append.1 hm with hm | hm
      · exact key A ao ha hm
      · exact key B bo hbb hm
    obtain ⟨q1, q2, q3, q4⟩ := hrow _ rfl
    rw [Nat.zero_add]
    exact ⟨hc, q1, q2, q3, q4⟩
/-- Two rows that the call has, as rows. -/
theorem rs_two {w : World} {ao bo : Option Addr} {ca cb : Nat} {a b : List UInt8} (n : Nat) (hn : n = w.heap.size) (ha : BAt w ao a) (ha0 : ao = none → a.length = 0 ∧ ca = 0) (ha1 : a.length ≤ ca ∧ ca ≤ 9223372036854775807) (hb : BAt w bo b) (hb0 : bo = none → b.length = 0 ∧ cb = 0) (hb1 : b.length ≤ cb ∧ cb ≤ 9223372036854775807) :
    RsAt (w.alloc (.cells #[.slice ao a.length ca, .slice bo b.length cb] 23)) (fun _ => True) (some ⟨n, 0, none⟩) [⟨ao, ca, a⟩, ⟨bo, cb, b⟩] := fun _ => by
  subst hn
  refine ⟨w.heap.size, 0, rfl, by simp, trivial, fun i hi => ?_⟩
  match i, hi with
  | 0, _ => exact ⟨by rw [cell_alloc_mark_at _ _ _ _ _ _ rfl]; rfl, ha1.1, ha1.2, ha0, fun hp => by
      obtain ⟨b, off, e, hb, hr⟩ := (ha.below (below_alloc w _)) hp
      exact ⟨b, off, e, hb, trivial, hr⟩⟩
  | 1, _ => exact ⟨by rw [cell_alloc_mark_at _ _ _ _ _ _ rfl]; rfl, hb1.1, hb1.2, hb0, fun hp => by
      obtain ⟨b, off, e, hb, hr⟩ := (hb.below (below_alloc w _)) hp
      exact ⟨b, off, e, hb, trivial, hr⟩⟩
theorem flat_two (ao bo : Option Addr) (ca cb : Nat) (a b : List UInt8) : flatR [⟨ao, ca, a⟩, ⟨bo, cb, b⟩] = a ++ b := by simp [flatR]

set_option maxRecDepth 8000 in
set_option maxHeartbeats 8000000 in
theorem joins_walk (ao bo : Option Addr) (ca cb : Nat) (A B : List RowR) (W : World) (hAc : A.length ≤ ca) (hca : ca ≤ 9223372036854775807) (hBc : B.length ≤ cb) (hcb : cb ≤ 9223372036854775807) (hA0 : ao = none → A.length = 0 ∧ ca = 0) (hB0 : bo = none → B.length = 0 ∧ cb = 0) (hA : RsAt W (fun x => x < W.heap.size) ao A) (hB : RsAt W (fun x => x < W.heap.size) bo B) :
    Calls Try.prog 6 #[.slice ao A.length ca, .slice bo B.length cb] W fun e w' => e = .returned (.bool true) ∧ Below W.heap.size W w' := by
  have HA := Lib.hid hA
  have HB := Lib.hid hB
  have HA0 := Lib.hid hA0
  have HB0 := Lib.hid hB0
  clear hA hB hA0 hB0
  obtain ⟨i0, hi, hz0, hz1, hz2⟩ := info_parts rowInfo
  go_enter Try.func6, Try.ntmps6
  go_wp2_with fail
  refine (heavy_any ao ca A _ W HA.out (by omega)).mono ?_
  rintro e w0 ⟨he, rfl⟩
  rcases he with rfl | ⟨rfl, hba⟩
  · go_wp2_with fail
    go_ret
    exact ⟨rfl, (by repeat (first | with_reducible exact Below.refl _ _ | with_reducible assumption | with_reducible refine Below.drew ?_ | with_reducible refine below_drawn ?_ | with_reducible refine Below.alloc ?_ (by first | omega | (simp; done) | (simp; omega) | (simp at *; omega)) _ | with_reducible refine Below.setCell ?_ (by first | omega | (simp; done) | (simp; omega) | (simp at *; omega)) _ | with_reducible refine Below.trans ?_ (Below.mono (by assumption) (by first | omega | (simp; done) | (simp; omega) | (simp at *; omega)))))⟩
  go_wp2_with fail
  refine (heavy_any bo cb B _ w0 HB.out (by omega)).mono ?_
  rintro e w1 ⟨he, rfl⟩
  rcases he with rfl | ⟨rfl, hbb⟩
  · go_wp2_with fail
    go_ret
    exact ⟨rfl, (by repeat (first | with_reducible exact Below.refl _ _ | with_reducible assumption | with_reducible refine Below.drew ?_ | with_reducible refine below_drawn ?_ | with_reducible refine Below.alloc ?_ (by first | omega | (simp; done) | (simp; omega) | (simp at *; omega)) _ | with_reducible refine Below.setCell ?_ (by first | omega | (simp; done) | (simp; omega) | (simp at *; omega)) _ | with_reducible refine Below.trans ?_ (Below.mono (by assumption) (by first | omega | (simp; done) | (simp; omega) | (simp at *; omega)))))⟩
  have hfab : (flatR (A ++ B)).length ≤ 8000 := by rw [flatR_append, List.length_append]; omega
  have Hfab := Lib.hid hfab
  clear hfab
  go_wp2_with (at_builtin; go_must (refine wpList_append_any _ rfl (.tmp 15) (.tmp 16) 38 rfl w1.heap.size 23 i0 (.slice none 0 0) 1 24 Try.underlying38 hi hz0 hz1 hz2 rfl (by decide) _ 0 [] rfl (owns_emptyAt _ w1.heap.size rfl w1.heap.size (Nat.le_refl _) 23 1) ao A.length ca (rowsV A) rfl HA0.out (by rw [rowsV_length, Nat.mul_one]) (rowsV_cells (HA.out.below (below_alloc w1 _))) (rowsV_one A) (by unfold maxLen; omega) (by omega) (by simp) ?_))
  intro v w2 hown2 hgrow2
  have hb2 : Below w1.heap.size w1 w2 := below_grown (below_alloc w1 _) (by simp) hgrow2 (fun k hk => by simp [Value.ownBlock] at hk; omega)
  obtain ⟨xo, xc, rfl⟩ : ∃ xo xc, v = .slice xo A.length xc := by
    rcases hown2.2 with ⟨h1, h2⟩ | ⟨g, c, cur, hv, -⟩
    · refine ⟨none, 0, ?_⟩
      rw [h1]; first | rfl | (congr 1; omega)
    · exact ⟨_, _, hv⟩
  try simp only [Nat.zero_add, List.nil_append] at hown2
  have Hown2 := Lib.hid hown2
  have Hb2 := Lib.hid hb2
  have hs2 := hb2.size
  clear hown2 hgrow2 hb2
  go_wp2_with (at_builtin; go_must (refine wpList_append_foot _ rfl (.tmp 17) (.tmp 18) 38 rfl w1.heap.size 23 i0 (.slice none 0 0) 1 24 Try.underlying38 hi hz0 hz1 hz2 rfl (by decide) xo A.length xc (rowsV A) rfl Hown2.out bo B.length cb (rowsV B) rfl HB0.out (by rw [rowsV_length, Nat.mul_one]) (rowsV_cells (HB.out.below Hb2.out)) (rowsV_one B) (by unfold maxLen; omega) (by omega) hs2 ?_))
  intro yo yc w3 hown3 hgrow3 hco3
  rw [show rowsV A ++ rowsV B = rowsV (A ++ B) from by simp [rowsV]] at hown3
  have hb3 : Below w1.heap.size w1 w3 := below_grown Hb2.out hs2 hgrow3 (fun k hk => own_block Hown2.out hk)
  have hycap : A.length + B.length ≤ yc ∧ yc ≤ 9223372036854775807 := by
    rcases hown3.2 with ⟨h1, h2⟩ | ⟨g, c, cur, hv, -, -, h1, h2, -⟩
    · simp only [Value.slice.injEq] at h1; omega
    · simp only [Value.slice.injEq] at hv
      obtain ⟨-, -, rfl⟩ := hv
      unfold maxLen at h2
      omega
  have S0 : Hid (St w1 w3 [thRow w1.heap.size 23 1 yo (A.length + B.length) yc (rowsV (A ++ B))]) :=
    (St.start w1).new hb3 _ hown3 (fun x hx => by
      obtain ⟨a, rfl, rfl⟩ := hx
      exact (World.ownsRow.lt hown3 a.block rfl).1)
  clear hown3 hgrow3 hco3 hb3 Hown2 Hb2
  go_wp2_with fail
  refine (join_any ao ca A _ w3 (HA.out.below S0.out.b) hAc (by omega) (by omega)).mono ?_
  rintro e w4 ⟨ja, jac, rfl, ho4, hb4⟩
  have S1 := Lib.hid (S0.out.ownC hb4 ho4)
  clear ho4 hb4 S0
  go_wp2_with fail
  refine (join_any bo cb B _ w4 (HB.out.below S1.out.b) hBc (by omega) (by omega)).mono ?_
  rintro e w5 ⟨jb, jbc, rfl, ho5, hb5⟩
  have S2 := Lib.hid (S1.out.ownC hb5 ho5)
  have hjb : OwnC w5 w4.heap.size jb jbc (flatR B) := S2.out.head
  have hja : OwnC w5 w3.heap.size ja jac (flatR A) := (S2.out.pull (A := [_])).head
  have hrs := rs_two w5.heap.size rfl hja.at hja.none hja.le hjb.at hjb.none hjb.le
  have Hrs := Lib.hid hrs
  clear ho5 hb5 S1 hja hjb hrs
  go_wp2_with fail
  refine (join_any _ 2 _ _ _ Hrs.out (by simp) (by simp) (by rw [flat_two, List.length_append]; omega)).mono ?_
  rw [flat_two, ← flatR_append]
  obtain ⟨f, hf⟩ : ∃ f, f = flatR (A ++ B) := ⟨_, rfl⟩
  rw [← hf]
  have hfm : f.length ≤ 8000 := hf ▸ Hfab.out
  have Hf := Lib.hid hf
  clear hf
  rintro e w6 ⟨x, xc, rfl, ho6, hb6⟩
  have S3 := Lib.hid (((S2.out.grow (below_alloc w5 _)).ownC hb6 ho6).pull (A := [_])).drop
  have S4 := Lib.hid (S3.out.pull (A := [_])).drop
  clear ho6 hb6 S2 S3 Hrs
  have hall4 : w6.ownsRow w1.heap.size 23 1 (.slice yo (A.length + B.length) yc) (A.length + B.length) (rowsV (A ++ B)) := (S4.out.pull (A := [_])).head
  have hrs4 := rs_own S4.out.b HA.out HB.out hall4
  have hlab : (A ++ B).length = A.length + B.length := List.length_append
  have hj4 := join_any yo yc (A ++ B) _ w6 hrs4 (by omega) (by omega) (by rw [← Hf.out]; omega)
  rw [hlab, ← Hf.out] at hj4
  have Hj4 := Lib.hid hj4
  have Hlab := Lib.hid hlab
  clear hall4 hrs4 hj4 hlab
  go_wp2_with fail
  refine Hj4.out.mono ?_
  rintro e w7 ⟨y, yyc, rfl, ho7, hb7⟩
  have S5 := Lib.hid (S4.out.grow hb7)
  have Hy := Lib.hid ho7
  clear ho7 hb7 S4 Hj4
  go_wp2_with fail
  refine (same_yes x y xc yyc f _ (show OwnC w7 _ x xc f from S5.out.head).at Hy.out.at (by omega)).mono ?_
  rintro e w8 ⟨rfl, hb8⟩
  have S6 := Lib.hid (S5.out.grow hb8)
  clear hb8 S5 Hy
  have hall6 : w8.ownsRow w1.heap.size 23 1 (.slice yo (A.length + B.length) yc) (A.length + B.length) (rowsV (A ++ B)) := (S6.out.pull (A := [_])).head
  have hrs6 := rs_own S6.out.b HA.out HB.out hall6
  have hsum := sum_any yo yc (A ++ B) w8 _ hrs6 (by rw [Hlab.out]; omega)
  rw [Hlab.out, ← Hf.out] at hsum
  obtain ⟨sv, hsv⟩ : ∃ sv, sv = sumOf f := ⟨_, rfl⟩
  rw [← hsv] at hsum
  have Hsum := Lib.hid hsum
  have Hsv := Lib.hid hsv
  have Hrs6 := Lib.hid hrs6
  clear hall6 hrs6 hsum hsv
  go_wp2_with fail
  refine Hsum.out.mono ?_
  rintro e w9 ⟨rfl, rfl⟩
  have hx6 : OwnC w9 _ x xc f := S6.out.head
  have Hx6 := Lib.hid hx6
  clear hx6 Hsum
  go_wp2_with fail
  refine (sum_any _ 1 [⟨x, xc, f⟩] _ _ (rs_one Hx6.out.none Hx6.out.le.1 Hx6.out.le.2 Hx6.out.at) (by simp)).mono ?_
  rintro e w10 ⟨rfl, rfl⟩
  rw [show flatR [⟨x, xc, f⟩] = f from by simp [flatR], ← Hsv.out]
  have S7 := Lib.hid (S6.out.grow (below_alloc w9 (.cells #[.slice x f.length xc] 23)))
  clear S6 Hrs6 Hx6
  go_wp2_with fail
  obtain ⟨wl, hwl⟩ : ∃ wl, wl = w9.alloc (.cells #[.slice x f.length xc] 23) := ⟨_, rfl⟩
  rw [← hwl] at S7 ⊢
  clear hwl
  have hall7 : wl.ownsRow w1.heap.size 23 1 (.slice yo (A.length + B.length) yc) (A.length + B.length) (rowsV (A ++ B)) := (S7.out.pull (A := [_])).head
  have hrs7 := rs_own S7.out.b HA.out HB.out hall7
  have Hrs7 := Lib.hid hrs7
  clear hall7 hrs7
  go_loopw [7, 8] (fun s7 s8 wr => wr = wl ∧ ∃ (k n : Nat), s7 = .int .i64 n ∧ s8 = .int .i64 k ∧ k ≤ A.length + B.length ∧ Hid (n = (flatR ((A ++ B).take k)).length)) (fun _ s8 _ => A.length + B.length - (intOf s8).toNat)
  case atStart => exact ⟨rfl, 0, 0, rfl, rfl, by omega, rfl⟩
  case round =>
    obtain ⟨rfl, k, n, rfl, rfl, hk, hst⟩ := hrel
    have hfl := flatR_le (A ++ B) k
    have hnl : n ≤ 8000 := by have := hst.out; have := Hf.out; rw [← this] at hfl; omega
    by_cases hlt : (k : Int) < ((A.length + B.length : Nat) : Int)
    · have hlab := Hlab.out
      obtain ⟨b, off, rfl, hb, -, hrow⟩ := Hrs7.out (by omega)
      have hrw := hrow k (by omega)
      have hfs := flatR_take (A ++ B) k (by omega)
      have hfl2 := flatR_le (A ++ B) (k + 1)
      obtain ⟨ro, rc, rb, hLk⟩ : ∃ ro rc rb, (⟨ro, rc, rb⟩ : RowR) = (A ++ B)[k]'(by omega) := ⟨_, _, _, rfl⟩
      rw [← hLk] at hrw hfs
      simp only at hfs
      have c0 : wr.cell? ⟨b, off + k, none⟩ = some (.slice ro rb.length rc) := hrw.c
      have hle : rb.length ≤ rc := hrw.le
      have hrcm : rc ≤ 9223372036854775807 := hrw.cm
      have Hn : Hid (n + rb.length = (flatR ((A ++ B).take (k + 1))).length) := by have := hst.out; unfold Hid; omega
      have hsm : rb.length ≤ 8000 := by rw [← Hf.out] at hfl2; omega
      have hltN : k < A.length + B.length := by omega
      clear hrw hrow hLk hfs hfl2 hlab hst hfl
      go_wp2_with fail
      go_roundw
      case rel => exact ⟨trivial, k + 1, n + rb.length, by go_num, by go_num, by omega, Hn⟩
      case measure => simp [intOf]; omega
    · have hn : n = f.length := by
        have h1 := hst.out
        rw [List.take_of_length_le (by have := Hlab.out; omega), ← Hf.out] at h1
        exact h1
      subst hn
      clear hst hfl hnl
      go_wp2_with fail
      refine (spoilC_any x xc _ f _ S7.out.head (by omega)).mono ?_
      rintro e v1 ⟨rfl, hk1⟩
      have S8 := Lib.hid (S7.out.lose hk1)
      clear hk1 S7 Hrs7
      have hall8 : v1.ownsRow w1.heap.size 23 1 (.slice yo (A.length + B.length) yc) (A.length + B.length) (rowsV (A ++ B)) := S8.out.head
      have hrs8 := rs_own S8.out.b HA.out HB.out hall8
      have hj8 := join_any yo yc (A ++ B) _ v1 hrs8 (by have := Hlab.out; omega) (by have := Hlab.out; omega) (by rw [← Hf.out]; omega)
      rw [Hlab.out, ← Hf.out] at hj8
      have Hj8 := Lib.hid hj8
      clear hall8 hrs8 hj8
      go_wp2_with fail
      refine Hj8.out.mono ?_
      rintro e v2 ⟨y2, yc2, rfl, ho2, hb2⟩
      have T2 := Lib.hid (S8.out.ownC hb2 ho2)
      clear ho2 hb2 S8 Hj8
      go_wp2_with fail
      refine (join_any ao ca A _ v2 (HA.out.below T2.out.b) hAc (by omega) (by omega)).mono ?_
      rintro e v3 ⟨ja, jac, rfl, ho3, hb3⟩
      have T3 := Lib.hid (T2.out.ownC hb3 ho3)
      clear ho3 hb3 T2
      go_wp2_with fail
      refine (join_any bo cb B _ v3 (HB.out.below T3.out.b) hBc (by omega) (by omega)).mono ?_
      rintro e v4 ⟨jb, jbc, rfl, ho4, hb4⟩
      have T4 := Lib.hid (T3.out.ownC hb4 ho4)
      have hjb : OwnC v4 v3.heap.size jb jbc (flatR B) := T4.out.head
      have hja : OwnC v4 v2.heap.size ja jac (flatR A) := (T4.out.pull (A := [_])).head
      have hrs := rs_two v4.heap.size rfl hja.at hja.none hja.le hjb.at hjb.none hjb.le
      have Hrs := Lib.hid hrs
      clear ho4 hb4 T3 hja hjb hrs
      go_wp2_with fail
      refine (join_any _ 2 _ _ _ Hrs.out (by simp) (by simp) (by rw [flat_two, List.length_append]; omega)).mono ?_
      rw [flat_two, ← flatR_append, ← Hf.out]
      rintro e v5 ⟨z, zc, rfl, ho5, hb5⟩
      have T5 := Lib.hid ((T4.out.grow (below_alloc v4 _)).ownC hb5 ho5)
      have hy : OwnC v5 _ y2 yc2 f := (T5.out.pull (A := [_, _, _])).head
      have Hy := Lib.hid hy
      clear ho5 hb5 T4 Hrs hy
      go_wp2_with fail
      refine (same_yes y2 z yc2 zc f _ Hy.out.at (show OwnC v5 _ z zc f from T5.out.head).at (by omega)).mono ?_
      rintro e v6 ⟨rfl, hb6⟩
      have T6 := Lib.hid (T5.out.grow hb6)
      clear hb6 T5 Hy
      go_wp2_with fail
      refine (known_any _).mono ?_
      rintro e v7 ⟨rfl, hb7⟩
      have Hb7 := Lib.hid (T6.out.grow hb7).b
      clear hb7
      go_wp2_with fail
      go_ret
      exact ⟨rfl, Hb7.out⟩

namespace OctetJoinsLift
open Go.ChangeShapes Go.WideShapes Go.ChangeAt Go.RowKit Go.Joins Go.Deep
open Go.ChangeMaps (open_string shut_string)

theorem own : ownKnob Try.prog.godebug = none := by kernel_rfl
theorem laidOut : laidOutB Try.prog = true := by kernel_rfl

set_option maxHeartbeats 1000000 in
set_option maxRecDepth 100000 in
theorem lifted (os : Os) (started : os.Started) (H : Type) (enc : TypeId × Value → H) :
    ReturnsInHanded {} Try.checked os 6 .any (Rows.octetJoinsSpec.pre6 enc Try.prog Try.f6 Rows.octetJoinsRow.domain false) (Rows.octetJoinsSpec.post enc Try.prog Try.f6 false true false false) := by
  refine returnsInHanded_of_change (C := Try.checked) own started (by kernel_rfl) Try.func6
    (ChangeSpec.witness6 (enc := enc) (C := Try.checked) false ⟨#[], #[.slice none 0 0, .slice none 0 0], []⟩ 8 (by kernel_rfl) (by kernel_rfl) (by kernel_rfl) (by kernel_rfl)) ?_
  intro W base args ds gs before hval0 hW hcnd _
  have hval : ∀ (j : Nat) t v, Try.f6.params[j]? = some t → args[j]? = some v → Value.okWide Try.prog W .any base t v := hval0
  have hW' := hW
  obtain ⟨p, q, hA0, hV, rfl, hfz, hnd⟩ := hW
  have hA : DataW.TrodAll enc Try.prog W 0 (fun _ => true) true Try.f6.params.toList args.toList ds p := hA0
  rw [Try.params6] at hA hval
  obtain ⟨v0, vs0, d0, ds0, p0, q0, hargs, rfl, rfl, h0, r0⟩ := trodAll_cons hA
  obtain ⟨v1, vs1, d1, ds1, p1, q1, rfl, rfl, rfl, h1, r1⟩ := trodAll_cons r0
  obtain ⟨rfl, rfl, rfl⟩ := trodAll_nil r1
  obtain rfl : args = #[v0, v1] := by cases args; simp_all
  obtain ⟨rfl, rfl⟩ := trodVars_none hV
  have k0 := h0
  have lt0 : ∀ x ∈ p0, x.block < W.heap.size := by obtain ⟨m, hm⟩ := k0; exact DataW.trod_lt m _ _ _ hm
  have k1 := h1
  have lt1 : ∀ x ∈ p1, x.block < W.heap.size := by obtain ⟨m, hm⟩ := k1; exact DataW.trod_lt m _ _ _ hm
  have post : ∀ e W', e = Ending.returned (.bool true) → Below W.heap.size W W' → ∃ v, e = .returned v ∧ Rows.octetJoinsSpec.post enc Try.prog Try.f6 false true false false W #[v0, v1] v W' := by
    intro e W' he bel
    subst he
    exact ⟨_, rfl, _, _, _, [], _, [], hW', trodAll_mk1 (shut_bool Try.underlying4 _), (trodAll_cons_mk (Below.trod laidOut (by kernel_rfl) (of_decide_eq_true (by kernel_rfl)) k0 bel lt0) (trodAll_cons_mk (Below.trod laidOut (by kernel_rfl) (of_decide_eq_true (by kernel_rfl)) k1 bel lt1) trodAll_mk0)), rfl, bel.frame _, fun h => by cases h⟩
  clear hW' hcnd hfz hnd hA0 hA hval0
  obtain ⟨ao, A, ca, rfl, hAc, hca, hA0, hA⟩ := open_rows (hval 0 38 v0 rfl rfl) h0
  obtain ⟨bo, B, cb, rfl, hBc, hcb, hB0, hB⟩ := open_rows (hval 1 38 v1 rfl rfl) h1
  exact (joins_walk ao bo ca cb A B W hAc hca hBc hcb hA0 hB0 hA hB).mono fun e W' ⟨he, bel⟩ => post e W' he bel

theorem over : Rows.octetJoinsRow.holds Try.pinned (OpenSpec.ofChange Rows.octetJoinsSpec) :=
  OpenClaim.holds_of_wide 6 Try.f6 rfl rfl rfl rfl rfl rfl rfl ⟨rfl, rfl, rfl, rfl, rfl⟩ rfl rfl rfl rfl rfl (by kernel_rfl) Try.func6 (by kernel_rfl)
    (of_decide_eq_true (by kernel_rfl)) (by unfold Func.isWrapper; first | (rw [if_pos (by decide +kernel)]; kernel_rfl) | (rw [if_neg (by decide +kernel)]; exact ⟨rfl, rfl⟩))
    (fun os started H enc _ => lifted os started H enc)
end OctetJoinsLift

/-- The statement. -/
theorem octetJoins_holds : Rows.OctetJoinsSaid := OctetJoinsLift.over
#print axioms octetJoins_holds
end Go.Proofs.Ytofkjogjnhnchaa
