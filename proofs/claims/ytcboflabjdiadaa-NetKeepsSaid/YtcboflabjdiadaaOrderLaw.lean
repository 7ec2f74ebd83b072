/- NetOrder: without anything else messages come in the order in which they were sent. -/
import Derived.Test.YtcboflabjdiadaaOnceLaw
import Derived.Test.YtcboflabjdiadaaHeavyA
import Derived.Test.YtcboflabjdiadaaOpenMs
namespace Go.Proofs.Ytcboflabjdiadaa
open Go.ChangeShapes Go.WideShapes Go.Deep Go.RowKit
open Go.ChangeMaps (open_string shut_string)

theorem msgInfo : (Try.prog.info? 35).map (fun i => (i.zero, i.size, i.bytes)) = some (some (.agg #[.int .i64 0, .int .i64 0, .slice none 0 0]), 3, 40) := by kernel_rfl
theorem msG3_length (l : List Ms) : (msG3 l).length = l.length * 3 := by
  induction l with
  | nil => rfl
  | cons m r ih => simp only [msG3, List.flatMap_cons, List.length_append, List.length_cons, List.length_nil] at ih ⊢; omega
theorem msG3_append (a b : List Ms) : msG3 (a ++ b) = msG3 a ++ msG3 b := by simp [msG3]
theorem msG3_one (l : List Ms) : ∀ u ∈ msG3 l, u.oneCell' = true := by
  intro u hu
  simp only [msG3, List.mem_flatMap, List.mem_cons, List.not_mem_nil, or_false] at hu
  obtain ⟨m, -, rfl | rfl | rfl⟩ := hu <;> rfl
theorem MsAt.cells3 {w : World} {ao : Option Addr} {M : List Ms} (h : MsAt w ao M) : ∀ ad, ao = some ad → ∀ j u, (msG3 M)[j]? = some u → w.cell? (ad.add j) = some u := by
  intro ad had j u hu
  have hj : j < M.length * 3 := by rw [← msG3_length]; exact (List.getElem?_eq_some_iff.1 hu).1
  obtain ⟨b, off, e, hb, hr⟩ := h (by omega)
  rw [had] at e
  simp only [Option.some.injEq] at e
  subst e
  obtain ⟨i, k, hk, rfl⟩ : ∃ i k, k < 3 ∧ j = i * 3 + k := ⟨j / 3, j % 3, Nat.mod_lt _ (by omega), by omega⟩
  rw [msG3_get M i (by omega) k hk] at hu
  obtain ⟨c0, c1, c2, -⟩ := hr i (by omega)
  rw [add_none]
  obtain rfl | rfl | rfl : k = 0 ∨ k = 1 ∨ k = 2 := by omega
  · rw [← (Option.some.inj hu : _ = u)]; exact c0
  · rw [← (Option.some.inj hu : _ = u), ← Nat.add_assoc]; exact c1
  · rw [← (Option.some.inj hu : _ = u), ← Nat.add_assoc]; exact c2
theorem MsAt.each {w : World} {ao : Option Addr} {M : List Ms} (h : MsAt w ao M) : ∀ q ∈ M, BAt w q.ao q.bs ∧ q.bs.length ≤ 140737488351232 := by
  intro q hq
  obtain ⟨i, hi, rfl⟩ := List.mem_iff_getElem.1 hq
  obtain ⟨b, off, e, hb, hr⟩ := h (by omega)
  exact ⟨(hr i hi).2.2.2.2.1, (hr i hi).2.2.2.2.2.1⟩
theorem NetAt.thing {W w w' : World} {p : Nat} {C : List Ct} {R : List Th} (h : NetAt W w p C R) (b : Below w.heap.size w w') (t : Th) (ht : t.T w') (hF : ∀ x, t.F x → w.heap.size ≤ x) : NetAt W w' p C (t :: R) := by
  obtain ⟨ro, rc, L, h1, h2, h3, h4⟩ := h
  exact ⟨ro, rc, L, h1, h2, h3, (h4.new b t ht hF).perm List.perm_middle.symm⟩
theorem acs_new {w : World} {ao : Option Addr} {cap : Nat} {M : List Ms} (h : MsAt w ao M) (h0 : ao = none → M.length = 0 ∧ cap = 0) (hl : M.length * 40 ≤ 140737488351232) (n : Nat) (hn : n = w.heap.size) : AcsAt (w.alloc (.cells #[.int .i64 0, .int .i64 0, .int .i64 0, .int .u8 0, .slice ao M.length cap] 26)) (some ⟨n, 0, none⟩) [⟨0, 0, 0, 0, ao, cap, M⟩] := by
  subst hn
  refine fun _ => ⟨w.heap.size, 0, rfl, by simp, fun i hi => ?_⟩
  obtain rfl : i = 0 := by simpa using hi
  obtain ⟨hc, -⟩ := cells_of_obj (heap_new w (.cells #[.int .i64 0, .int .i64 0, .int .i64 0, .int .u8 0, .slice ao M.length cap] 26))
  exact ⟨hc 0, hc 1, hc 2, hc 3, hc 4, h.grow (below_allocN _ _), hl, h0⟩
set_option maxRecDepth 100000 in
set_option maxHeartbeats 4000000 in
theorem order_any (lo mo : Option Addr) (lc mc : Nat) (L M : List Ms) (w : World) (hL : MsAt w lo L) (hM : MsAt w mo M) (h0L : lo = none → L.length = 0 ∧ lc = 0) (h0M : mo = none → M.length = 0 ∧ mc = 0) (hlL : L.length * 40 ≤ 140737488351232) (hlM : M.length * 40 ≤ 140737488351232) :
    Calls Try.prog 4 #[.slice lo L.length lc, .slice mo M.length mc] w fun e w' => e = .returned (.bool true) ∧ Below w.heap.size w w' := by
  have HA := Lib.hid (acs_new hL h0L hlL _ rfl)
  have HB := Lib.hid (fun w' (hb : Below w.heap.size w w') n (hn : n = w'.heap.size) => acs_new (hM.grow hb) h0M hlM n hn)
  have HL := Lib.hid hL
  have HM := Lib.hid hM
  have H0L := Lib.hid h0L
  have H0M := Lib.hid h0M
  obtain ⟨i0, hi, hz0, hz1, hz2⟩ := info_parts msgInfo
  clear hL hM h0L h0M
  by_cases hbig : (500 : Int) < L.length + M.length
  · go_enter Try.func4, Try.ntmps4
    go_wp2_with fail
    refine (heavy_any _ 1 _ _ HA.out (by simp)).mono ?_
    rintro e w1 ⟨rfl | rfl, rfl⟩
    · go_wp2_with fail
      go_ret
      exact ⟨rfl, (by repeat (first | with_reducible exact Below.refl _ _ | with_reducible assumption | with_reducible refine Below.drew ?_ | with_reducible refine below_drawn ?_ | with_reducible refine Below.alloc ?_ (by first | omega | (simp; done) | (simp; omega) | (simp at *; omega)) _ | with_reducible refine Below.setCell ?_ (by first | omega | (simp; done) | (simp; omega) | (simp at *; omega)) _ | with_reducible refine Below.trans ?_ (Below.mono (by assumption) (by first | omega | (simp; done) | (simp; omega) | (simp at *; omega)))))⟩
    · go_wp2_with fail
      refine (heavy_any _ 1 _ _ (HB.out _ (below_allocN _ _) (w.heap.size + 1) (by simp)) (by simp)).mono ?_
      rintro e w1 ⟨rfl | rfl, rfl⟩
      · go_wp2_with fail
        go_ret
        exact ⟨rfl, (by repeat (first | with_reducible exact Below.refl _ _ | with_reducible assumption | with_reducible refine Below.drew ?_ | with_reducible refine below_drawn ?_ | with_reducible refine Below.alloc ?_ (by first | omega | (simp; done) | (simp; omega) | (simp at *; omega)) _ | with_reducible refine Below.setCell ?_ (by first | omega | (simp; done) | (simp; omega) | (simp at *; omega)) _ | with_reducible refine Below.trans ?_ (Below.mono (by assumption) (by first | omega | (simp; done) | (simp; omega) | (simp at *; omega)))))⟩
      · go_wp2_with fail
        go_ret
        exact ⟨rfl, (by repeat (first | with_reducible exact Below.refl _ _ | with_reducible assumption | with_reducible refine Below.drew ?_ | with_reducible refine below_drawn ?_ | with_reducible refine Below.alloc ?_ (by first | omega | (simp; done) | (simp; omega) | (simp at *; omega)) _ | with_reducible refine Below.setCell ?_ (by first | omega | (simp; done) | (simp; omega) | (simp at *; omega)) _ | with_reducible refine Below.trans ?_ (Below.mono (by assumption) (by first | omega | (simp; done) | (simp; omega) | (simp at *; omega)))))⟩
  · go_enter Try.func4, Try.ntmps4
    go_wp2_with fail
    refine (heavy_any _ 1 _ _ HA.out (by simp)).mono ?_
    rintro e w1 ⟨rfl | rfl, rfl⟩
    · go_wp2_with fail
      go_ret
      exact ⟨rfl, (by repeat (first | with_reducible exact Below.refl _ _ | with_reducible assumption | with_reducible refine Below.drew ?_ | with_reducible refine below_drawn ?_ | with_reducible refine Below.alloc ?_ (by first | omega | (simp; done) | (simp; omega) | (simp at *; omega)) _ | with_reducible refine Below.setCell ?_ (by first | omega | (simp; done) | (simp; omega) | (simp at *; omega)) _ | with_reducible refine Below.trans ?_ (Below.mono (by assumption) (by first | omega | (simp; done) | (simp; omega) | (simp at *; omega)))))⟩
    · go_wp2_with fail
      refine (heavy_any _ 1 _ _ (HB.out _ (below_allocN _ _) (w.heap.size + 1) (by simp)) (by simp)).mono ?_
      rintro e w1 ⟨rfl | rfl, rfl⟩
      · go_wp2_with fail
        go_ret
        exact ⟨rfl, (by repeat (first | with_reducible exact Below.refl _ _ | with_reducible assumption | with_reducible refine Below.drew ?_ | with_reducible refine below_drawn ?_ | with_reducible refine Below.alloc ?_ (by first | omega | (simp; done) | (simp; omega) | (simp at *; omega)) _ | with_reducible refine Below.setCell ?_ (by first | omega | (simp; done) | (simp; omega) | (simp at *; omega)) _ | with_reducible refine Below.trans ?_ (Below.mono (by assumption) (by first | omega | (simp; done) | (simp; omega) | (simp at *; omega)))))⟩
      · have hb0 : Below w.heap.size w ((w.alloc (.cells #[.int .i64 0, .int .i64 0, .int .i64 0, .int .u8 0, .slice lo L.length lc] 26)).alloc (.cells #[.int .i64 0, .int .i64 0, .int .i64 0, .int .u8 0, .slice mo M.length mc] 26)) := (by repeat (first | with_reducible exact Below.refl _ _ | with_reducible assumption | with_reducible refine Below.drew ?_ | with_reducible refine below_drawn ?_ | with_reducible refine Below.alloc ?_ (by first | omega | (simp; done) | (simp; omega) | (simp at *; omega)) _ | with_reducible refine Below.setCell ?_ (by first | omega | (simp; done) | (simp; omega) | (simp at *; omega)) _ | with_reducible refine Below.trans ?_ (Below.mono (by assumption) (by first | omega | (simp; done) | (simp; omega) | (simp at *; omega)))))
        generalize hw0 : ((w.alloc (.cells #[.int .i64 0, .int .i64 0, .int .i64 0, .int .u8 0, .slice lo L.length lc] 26)).alloc (.cells #[.int .i64 0, .int .i64 0, .int .i64 0, .int .u8 0, .slice mo M.length mc] 26)) = w0 at hb0 ⊢
        have HB0 := Lib.hid hb0
        clear hb0 hw0 HA HB
        have hLn : L.length = fits 0 L.length := by unfold fits; omega
        have hMn : M.length = fits L.length M.length := by unfold fits; omega
        have HLn := Lib.hid hLn
        have HMn := Lib.hid hMn
        clear hLn hMn
        go_wp2_with fail
        refine (new_any w0).mono ?_
        rintro e w1 ⟨rfl, hw1⟩
        have HN1 : Hid (NetAt w w1 w0.heap.size [] []) := by rw [hw1]; exact NetAt.newIn ⟨HB0.out, trivial⟩
        clear hw1
        go_wp2_with fail
        refine (send_ct HN1.out lo lc L (fun w' X hS => HL.out.grow hS.b) (by omega) L.length rfl L.length HLn.out).mono ?_
        rintro e w2 ⟨rfl, hN⟩
        have HN2 : Hid (NetAt w w2 w0.heap.size (L.map ct) []) := by rw [List.take_length] at hN; exact hN
        clear hN HN1
        go_wp2_with fail
        refine (send_ct HN2.out mo mc M (fun w' X hS => HM.out.grow hS.b) (by omega) M.length rfl M.length (by rw [List.length_map]; exact HMn.out)).mono ?_
        rintro e w3 ⟨rfl, hN⟩
        have HN3 : Hid (NetAt w w3 w0.heap.size ((L ++ M).map ct) []) := by rw [List.take_length] at hN; rw [List.map_append]; exact hN
        clear hN HN2
        go_wp2_with (at_builtin; go_must (refine wpList_append_any _ rfl (.tmp 47) (.tmp 48) 22 rfl w3.heap.size 35 i0 (.agg #[.int .i64 0, .int .i64 0, .slice none 0 0]) 3 40 Try.underlying22 hi hz0 hz1 hz2 rfl (by decide) _ 0 [] rfl (owns_emptyAt _ w3.heap.size rfl w3.heap.size (Nat.le_refl _) 35 3) lo L.length lc (msG3 L) rfl H0L.out (msG3_length L) ((HL.out.grow HN3.out.b).grow (below_allocN _ _)).cells3 (msG3_one L) (by unfold maxLen; omega) (by omega) (by simp) ?_))
        intro v w4 hown hgrow
        have hb4 : Below w3.heap.size w3 w4 := below_grown ((Below.refl _ _).alloc (Nat.le_refl _) _) (by simp) hgrow (fun k hk => by simp [Value.ownBlock] at hk; omega)
        have Hown := Lib.hid (show w4.ownsRow w3.heap.size 35 3 v L.length (msG3 L) from hown)
        have HB4 := Lib.hid hb4
        have hs4 := hb4.size
        clear hown hgrow hb4
        go_wp2_with (at_builtin; go_must (refine wpList_append_any _ rfl (.tmp 49) (.tmp 50) 22 rfl w3.heap.size 35 i0 (.agg #[.int .i64 0, .int .i64 0, .slice none 0 0]) 3 40 Try.underlying22 hi hz0 hz1 hz2 rfl (by decide) v L.length (msG3 L) rfl Hown.out mo M.length mc (msG3 M) rfl H0M.out (msG3_length M) ((HM.out.grow HN3.out.b).grow HB4.out).cells3 (msG3_one M) (by unfold maxLen; omega) (by omega) hs4 ?_))
        intro v5 w5 hown hgrow
        have hb5 : Below w3.heap.size w3 w5 := below_grown HB4.out hs4 hgrow (fun k hk => own_block Hown.out hk)
        rw [← msG3_append] at hown
        obtain ⟨N, hN⟩ : ∃ N, N = (L ++ M).length := ⟨_, rfl⟩
        rw [show L.length + M.length = N from by rw [hN, List.length_append]] at hown
        obtain ⟨ao, cap, rfl, hge⟩ := owns_shape hown
        have HN5 := Lib.hid (HN3.out.thing hb5 (thRow w3.heap.size 35 3 ao N cap (msG3 (L ++ M))) hown (fun x ⟨a, ha, hx⟩ => hx ▸ hge a ha))
        have hall := Lib.hid (show ∀ q ∈ L ++ M, BAt w q.ao q.bs ∧ q.bs.length ≤ 140737488351232 from fun q hq => (List.mem_append.1 hq).elim (HL.out.each q) (HM.out.each q))
        obtain ⟨A, hA⟩ : ∃ A, A = L ++ M := ⟨_, rfl⟩
        rw [← hA] at HN5 hall hN
        have HNn := Lib.hid hN
        have hNb : N ≤ 500 := by rw [hN, hA, List.length_append]; omega
        clear hown hgrow hb5 hge hN hA HN3 Hown HB4 HL HM H0L H0M HLn HMn
        go_wp2_with fail
        go_loopw [7, 8, 9] (fun s7 _ _ wr => ∃ i : Nat, s7 = .int .i64 i ∧ i ≤ N ∧ Hid (NetAt w wr w0.heap.size ((A.drop i).map ct) [thRow w3.heap.size 35 3 ao N cap (msG3 A)])) (fun s7 _ _ _ => N - (intOf s7).toNat)
        case atStart => exact ⟨0, rfl, by omega, HN5⟩
        case round =>
          obtain ⟨i, rfl, hi2, HN⟩ := hrel
          clear HN5
          by_cases hlt : i < N
          · have hiA : i < A.length := by rw [← HNn.out]; exact hlt
            obtain ⟨f, t, qo, qc, bs, sp, hq⟩ : ∃ f t ao cap bs sp, (⟨f, t, ao, cap, bs, sp⟩ : Ms) = A[i] := ⟨_, _, _, _, _, _, rfl⟩
            have hqa := hall.out _ (List.getElem_mem hiA)
            rw [← hq] at hqa
            obtain ⟨hqb, hql⟩ := hqa
            have HNg : Hid (NetAt w wr w0.heap.size ((f, t, bs, sp) :: (A.drop (i + 1)).map ct) [thRow w3.heap.size 35 3 ao N cap (msG3 A)]) := by
              have := HN.out
              rw [List.drop_eq_getElem_cons hiA, List.map_cons, ← hq] at this
              exact this
            have Hqb := Lib.hid hqb
            have Hq := Lib.hid hq
            clear hq hqb HN
            simp only at hql
            go_wp2_with fail
            refine (give_c f t bs sp HNg.out).mono ?_
            rintro e w6 ⟨xo, xc, rfl, hN⟩
            have HN6 := Lib.hid (hN.objN (.cells #[.int .i64 f, .int .i64 t, .slice xo bs.length xc] 35) _ rfl)
            obtain ⟨g, rfl, hglt⟩ := row_form (show w6.ownsRow w3.heap.size 35 3 (.slice ao N cap) N (msG3 A) from hN.mem (t := thRow w3.heap.size 35 3 ao N cap (msG3 A)) (by simp)) (by omega)
            clear hN HNg
            go_wp2_with fail
            refine wp_name fun wa hwa => ?_
            rw [← hwa] at HN6
            have hws : w6.heap.size < wa.heap.size := by rw [hwa]; simp
            have hgs : g < wa.heap.size := by omega
            clear hwa
            have q0 := HN6.out.cells (b := w6.heap.size) (cur := #[.int .i64 f, .int .i64 t, .slice xo bs.length xc]) (t := 35) (by simp) 0 _ rfl
            have q1 := HN6.out.cells (b := w6.heap.size) (cur := #[.int .i64 f, .int .i64 t, .slice xo bs.length xc]) (t := 35) (by simp) 1 _ rfl
            have q2 := HN6.out.cells (b := w6.heap.size) (cur := #[.int .i64 f, .int .i64 t, .slice xo bs.length xc]) (t := 35) (by simp) 2 _ rfl
            have hrow : wa.ownsRow w3.heap.size 35 3 (.slice (some ⟨g, 0, none⟩) N cap) N (msG3 A) := HN6.out.mem (t := thRow w3.heap.size 35 3 (some ⟨g, 0, none⟩) N cap (msG3 A)) (by simp)
            have hce : ∀ j, j < 3 → wa.cell? ⟨g, i * 3 + j, none⟩ = [Value.int .i64 f, .int .i64 t, .slice qo bs.length qc][j]? := fun j hj => by
              have h1 := hrow.cellAt (i * 3 + j) (by omega)
              rw [msG3_get A i hiA j hj, ← Hq.out] at h1
              simpa using h1
            have r0 : wa.cell? ⟨g, i * 3, none⟩ = some (.int .i64 f) := hce 0 (by omega)
            have r1 : wa.cell? ⟨g, i * 3 + 1, none⟩ = some (.int .i64 t) := hce 1 (by omega)
            have r2 : wa.cell? ⟨g, i * 3 + 2, none⟩ = some (.slice qo bs.length qc) := hce 2 (by omega)
            have hmg := Lib.hid (fun g' : Gr wa => message_any f t xo xc bs f t qo qc bs (gr wa g') ((HN6.out.bat (base := w.heap.size) (cap := xc) (by simp)).below (gr_below wa g')) ((Hqb.out.below HN6.out.b).below (gr_below wa g')) (by omega) (by omega) true (by simp))
            clear hrow hce
            (refine wp_region_gr (by kernel_rfl) (by kernel_rfl) ?_; (repeat (go_big_quiet_step (first | (go_at_call 14; exact calls_gr (hmg.out _)) | fail))); refine wpQuiet_nil ?_; intro _ hw'; obtain ⟨g', hw''⟩ := hw'; subst hw'')
            have HN7 := Lib.hid ((HN6.out.grow (gr_below wa g')).drop.drop)
            clear HN6 hmg q0 q1 q2 r0 r1 r2
            go_wp2_with fail
            go_roundw
            case rel => exact ⟨i + 1, by go_num, by omega, HN7⟩
            case measure => simp [intOf]; omega
          · obtain rfl : i = N := by omega
            have HNe : Hid (NetAt w wr w0.heap.size [] [thRow w3.heap.size 35 3 ao i cap (msG3 A)]) := by
              have := HN.out
              rw [List.drop_of_length_le (by rw [← HNn.out]; omega)] at this
              exact this
            clear HN
            go_wp2_with fail
            refine (len_cn HNe.out 0 rfl).mono ?_
            rintro e w15 ⟨rfl, rfl⟩
            go_wp2_with fail
            refine (known_any _).mono ?_
            rintro e w16 ⟨rfl, hb⟩
            have hb6 := HNe.out.b.trans (hb.mono HNe.out.b.size)
            clear hb
            go_wp2_with fail
            go_ret
            exact ⟨rfl, hb6⟩

namespace NetOrderLift
open Go.ChangeShapes Go.WideShapes Go.ChangeAt Go.RowKit Go.Joins Go.Deep
open Go.ChangeMaps (open_string shut_string)

theorem own : ownKnob Try.prog.godebug = none := by kernel_rfl
theorem laidOut : laidOutB Try.prog = true := by kernel_rfl

set_option maxHeartbeats 1000000 in
set_option maxRecDepth 100000 in
theorem lifted (os : Os) (started : os.Started) (H : Type) (enc : TypeId × Value → H) :
    ReturnsInHanded {} Try.checked os 4 .any (Rows.netOrderSpec.pre6 enc Try.prog Try.f4 Rows.netOrderRow.domain false) (Rows.netOrderSpec.post enc Try.prog Try.f4 false true false false) := by
  refine returnsInHanded_of_change_sized (C := Try.checked) own started (by kernel_rfl) Try.func4
    (ChangeSpec.witness6 (enc := enc) (C := Try.checked) false ⟨#[], #[.slice none 0 0, .slice none 0 0], []⟩ 8 (by kernel_rfl) (by kernel_rfl) (by kernel_rfl) (by kernel_rfl)) ?_
  intro W base args ds gs before hval0 hW hcnd hsz0 _
  have hval : ∀ (j : Nat) t v, Try.f4.params[j]? = some t → args[j]? = some v → Value.okWide Try.prog W .any base t v := hval0
  have hW' := hW
  obtain ⟨p, q, hA0, hV, rfl, hfz, hnd⟩ := hW
  have hA : DataW.TrodAll enc Try.prog W 0 (fun _ => true) true Try.f4.params.toList args.toList ds p := hA0
  have hsz : (DataW.weightsEach Try.prog (Try.f4.params.toList ++ Rows.netOrderSpec.plain.varTypes Try.prog) (ds ++ gs)).all (· ≤ reachBytes) = true := hsz0
  rw [Try.params4] at hA hval hsz
  obtain ⟨v0, vs0, d0, ds0, p0, q0, hargs, rfl, rfl, h0, r0⟩ := trodAll_cons hA
  obtain ⟨v1, vs1, d1, ds1, p1, q1, rfl, rfl, rfl, h1, r1⟩ := trodAll_cons r0
  obtain ⟨rfl, rfl, rfl⟩ := trodAll_nil r1
  obtain rfl : args = #[v0, v1] := by cases args; simp_all
  obtain ⟨rfl, rfl⟩ := trodVars_none hV
  have k0 := h0
  have lt0 : ∀ x ∈ p0, x.block < W.heap.size := by obtain ⟨m, hm⟩ := k0; exact DataW.trod_lt m _ _ _ hm
  have k1 := h1
  have lt1 : ∀ x ∈ p1, x.block < W.heap.size := by obtain ⟨m, hm⟩ := k1; exact DataW.trod_lt m _ _ _ hm
  have post : ∀ e W', e = Ending.returned (.bool true) → Below W.heap.size W W' → ∃ v, e = .returned v ∧ Rows.netOrderSpec.post enc Try.prog Try.f4 false true false false W #[v0, v1] v W' := by
    intro e W' he bel
    subst he
    exact ⟨_, rfl, _, _, _, [], _, [], hW', trodAll_mk1 (shut_bool Try.underlying4 _), (trodAll_cons_mk (Below.trod laidOut (by kernel_rfl) (of_decide_eq_true (by kernel_rfl)) k0 bel lt0) (trodAll_cons_mk (Below.trod laidOut (by kernel_rfl) (of_decide_eq_true (by kernel_rfl)) k1 bel lt1) trodAll_mk0)), rfl, bel.frame _, fun h => by cases h⟩
  clear hW' hcnd hfz hnd hA0 hA hval0
  obtain ⟨ao, L, ca, rfl, hL1, hL2, hL3, hL4, hL5⟩ := open_msgs (hval 0 22 v0 rfl rfl) h0 (fits_top hsz (j := 0) rfl rfl)
  obtain ⟨bo, M, cb, rfl, hM1, hM2, hM3, hM4, hM5⟩ := open_msgs (hval 1 22 v1 rfl rfl) h1 (fits_top hsz (j := 1) rfl rfl)
  exact (order_any ao bo ca cb L M W hL4 hM4 hL3 hM3 hL5 hM5).mono fun e W' ⟨he, bel⟩ => post e W' he bel

theorem over : Rows.netOrderRow.holds Try.pinned (OpenSpec.ofChange Rows.netOrderSpec) :=
  OpenClaim.holds_of_wide 4 Try.f4 rfl rfl rfl rfl rfl rfl rfl ⟨rfl, rfl, rfl, rfl, rfl⟩ rfl rfl rfl rfl rfl (by kernel_rfl) Try.func4 (by kernel_rfl)
    (of_decide_eq_true (by kernel_rfl)) (by unfold Func.isWrapper; first | (rw [if_pos (by decide +kernel)]; kernel_rfl) | (rw [if_neg (by decide +kernel)]; exact ⟨rfl, rfl⟩))
    (fun os started H enc _ => lifted os started H enc)
end NetOrderLift

/-- The statement. -/
theorem netOrder_holds : Rows.NetOrderSaid := NetOrderLift.over
#print axioms netOrder_holds
end Go.Proofs.Ytcboflabjdiadaa
