/- The document's Drop. -/
import Derived.Test.YtcboflabjdiadaaRNc
namespace Go.Proofs.Ytcboflabjdiadaa
open Go.RowKit

theorem hits_any (nl : List Int) (m : Ms) : hits nl m = nl.any (fun x => m.f == x || m.t == x) := by
  unfold hits
  induction nl with
  | nil => rfl
  | cons x nl ih =>
    simp only [List.contains_cons, List.any_cons] at ih ⊢
    rw [← ih]
    cases m.f == x <;> cases m.t == x <;> simp
theorem any_take_succ (nl : List Int) (f t : Int) (q : Nat) (hq : q < nl.length) : (nl.take (q + 1)).any (fun x => f == x || t == x) = ((nl.take q).any (fun x => f == x || t == x) || f == nl[q] || t == nl[q]) := by
  rw [List.take_succ_eq_append_getElem hq, List.any_append, Bool.or_assoc]; simp
theorem keptM_succ (nl : List Int) (l : List Ms) (j : Nat) (hj : j < l.length) : keptM nl (l.take (j + 1)) = keptM nl (l.take j) ++ (if hits nl l[j] then [] else [l[j]]) := by
  unfold keptM
  rw [List.take_succ_eq_append_getElem hj, List.filter_append]
  cases hh : hits nl l[j] <;> simp [List.filter, hh]
theorem St.rdropped {W w : World} {R : List Th} {p rc c2 m : Nat} {ro nr : Option Addr} {l K : List Ms} (h : St W w (thRow W.heap.size 72 4 nr m c2 (msR K) :: (netrefL W.heap.size p ro rc l ++ R))) (hm : m = K.length) (hsub : K.Sublist l) :
    St W (w.setCell ⟨p, 0, none⟩ (.slice nr m c2)) (netrefL W.heap.size p nr c2 K ++ R) := by
  subst hm
  have S1 := h.pull (A := [_])
  have hT : (thNetref W.heap.size p ro rc l).T w := S1.head
  have hpr : ¬ ∃ a, nr = some a ∧ a.block = p := fun hx => S1.t.2.2.1 (thRow W.heap.size 72 4 nr K.length c2 (msR K)) List.mem_cons_self p (.inl rfl) hx
  have S2 := S1.step (t' := thObj p (.cells #[.slice nr K.length c2] 50 (0, 0))) ((Keeps.set w ⟨p, 0, none⟩ (.slice nr K.length c2)).weak (T := (thNetref W.heap.size p ro rc l).F) (fun _ _ e => .inl e)) (set_one hT.1) (fun x hx => .inl (.inl hx))
  obtain ⟨hTo, hFo, hAo, hTr, hFr, hAr, hrest⟩ := S2.t
  have hs2 : List.Sublist (K.map (thD W.heap.size) ++ R) (l.map (thD W.heap.size) ++ R) := (hsub.map _).append_right R
  refine ⟨S2.b, ⟨hTo, hTr, fun a ha hx => hpr ⟨a, ha, hx⟩⟩, ?_, ?_, hrest.sub hs2⟩
  · intro x hx
    rcases hx with hx | hx
    · exact hFo x hx
    · exact hFr x hx
  · intro u hu x hx
    rcases hx with hx | hx
    · exact hAo u (List.mem_cons_of_mem _ (hs2.subset hu)) x hx
    · exact hAr u (hs2.subset hu) x hx
def RDropPost (W : World) (R : List Th) (p : Nat) (l : List Ms) (nl : List Int) (e : Ending) (w' : World) : Prop := ∃ ro' rc', e = .returned (.int .i64 ((l.length : Int) - (keptM nl l).length)) ∧ St W w' (netrefL W.heap.size p ro' rc' (keptM nl l) ++ R)
set_option maxRecDepth 20000 in
set_option maxHeartbeats 4000000 in
theorem rdrop_any (W w : World) (R : List Th) (p : Nat) (ro : Option Addr) (rc : Nat) (l : List Ms) (no : Option Addr) (nc : Nat) (nl : List Int) (h : St W w (netrefL W.heap.size p ro rc l ++ R)) (hm : l.length ≤ 1024) (hN : ∀ w' X, St W w' (X ++ R) → IntsAt w' no nl) (hNm : nl.length ≤ 9223372036854775807) :
    Calls Try.prog 34 #[.pointer (some ⟨p, 0, none⟩), .slice no nl.length nc] w (RDropPost W R p l nl) := by
  obtain ⟨i0, hii, hz0, hz1, hz2⟩ := info_parts itemInfo
  have H : Hid (St W w (thRow W.heap.size 72 4 none 0 0 (msR []) :: (netrefL W.heap.size p ro rc l ++ R))) := Lib.hid (h.new (Below.refl _ _) (thRow W.heap.size 72 4 none 0 0 []) (World.ownsRow_nil _ _ _ _) (fun x hx => by obtain ⟨a, e, _⟩ := hx; cases e))
  obtain ⟨n, hn⟩ : ∃ n, n = l.length := ⟨_, rfl⟩
  obtain ⟨z, hz⟩ : ∃ z, z = nl.length := ⟨_, rfl⟩
  have hK0 : Hid (([] : List Ms) = keptM nl (l.take 0)) := Lib.hid rfl
  rw [← hn] at hm
  rw [← hz] at hNm ⊢
  have Hn := Lib.hid hn
  have Hz := Lib.hid hz
  have HN := Lib.hid hN
  clear h hn hz hN
  unfold RDropPost
  go_enter Try.func34, Try.ntmps34
  go_wp2_with fail
  go_loopw [5, 6, 7, 8] (fun s5 s6 _ _ wr => ∃ (j : Nat) (K : List Ms) (nr : Option Addr) (c2 m : Nat), s5 = .slice nr m c2 ∧ s6 = .int .i64 j ∧ j ≤ n ∧ m ≤ j ∧ Hid (m = K.length) ∧ Hid (K = keptM nl (l.take j)) ∧ Hid (St W wr (thRow W.heap.size 72 4 nr m c2 (msR K) :: (netrefL W.heap.size p ro rc l ++ R)))) (fun _ s6 _ _ _ => n - (intOf s6).toNat)
  case atStart => exact ⟨0, [], none, 0, 0, rfl, rfl, by omega, by omega, Lib.hid rfl, hK0, H⟩
  case round =>
    clear H hK0
    obtain ⟨j, K, nr, c2, m, rfl, rfl, hj, hmj, Hm, HK, HS⟩ := hrel
    have hT : (thNetref W.heap.size p ro rc l).T wr := (HS.out.pull (A := [_])).head
    obtain ⟨c0, f0⟩ := cell_of_one hT.1
    rw [← Hn.out] at c0
    have hplt := lt_of_block hT.1
    by_cases hlt : j < n
    · have hjl : j < l.length := by rw [← Hn.out]; exact hlt
      obtain ⟨g, hg0, hg⟩ := row_form hT.2.1 (by omega)
      subst hg0
      obtain ⟨f, t, ao, cap, bs, sp, hq⟩ : ∃ f t ao cap bs sp, (⟨f, t, ao, cap, bs, sp⟩ : Ms) = l[j] := ⟨_, _, _, _, _, _, rfl⟩
      have Hq := Lib.hid hq
      have hli : (j : Int) < n := by omega
      have Hh0 : Hid (false = (nl.take 0).any (fun x => f == x || t == x)) := Lib.hid rfl
      clear hT hq
      go_wp2_with fail
      go_loopw [7, 8] (fun s7 s8 wx => ∃ (q : Nat) (b : Bool), s7 = .bool b ∧ s8 = .int .i64 q ∧ q ≤ z ∧ Hid (b = (nl.take q).any (fun x => f == x || t == x)) ∧ Hid (St W wx (thRow W.heap.size 72 4 nr m c2 (msR K) :: (netrefL W.heap.size p (some ⟨g, 0, none⟩) rc l ++ R)))) (fun _ s8 _ => z - (intOf s8).toNat)
      case atStart => exact ⟨0, false, rfl, rfl, by omega, Hh0, HS⟩
      case round =>
        clear HS Hh0 c0 f0 hplt
        obtain ⟨q, b, rfl, rfl, hqz, Hb, HS⟩ := hrel
        have hT : (thNetref W.heap.size p (some ⟨g, 0, none⟩) rc l).T wr := (HS.out.pull (A := [_])).head
        obtain ⟨c0, f0⟩ := cell_of_one hT.1
        obtain ⟨c1, c2', c3, c4⟩ := ref_cells hT j hjl
        rw [← Hq.out] at c1 c2' c3 c4
        simp only at c1 c2' c3 c4
        rw [← Hn.out] at c0
        have hplt := lt_of_block hT.1
        clear hT
        by_cases hqlt : q < z
        · have hql : q < nl.length := by rw [← Hz.out]; exact hqlt
          obtain ⟨nb, noff, hno, hnb, hnr⟩ := HN.out wr (_ :: netrefL W.heap.size p (some ⟨g, 0, none⟩) rc l) HS.out (by omega)
          subst hno
          have x0 := hnr q hql
          obtain ⟨x, hx⟩ : ∃ x, x = nl[q] := ⟨_, rfl⟩
          rw [← hx] at x0
          have Hx := Lib.hid hx
          clear hnr hx
          have hqz2 : (q : Int) < z := by omega
          have hnext : Hid ((b || f == x || t == x) = (nl.take (q + 1)).any (fun x => f == x || t == x)) := Lib.hid (by rw [any_take_succ nl f t q hql, ← Hb.out, Hx.out])
          have hgs : g < wr.heap.size := lt_of_cellN c1
          clear Hb
          cases b with
          | true =>
            have hnext2 : Hid (true = (nl.take (q + 1)).any (fun x => f == x || t == x)) := hnext
            clear hnext
            go_wp2_with fail
            (refine wp_region_gr (by kernel_rfl) (by kernel_rfl) ?_; (repeat (go_big_quiet_step (fail))); refine wpQuiet_nil ?_; intro _ hw'; obtain ⟨g', hw''⟩ := hw'; subst hw'')
            go_wp2_with fail
            have HS2 := Lib.hid (HS.out.grow (gr_below wr g'))
            exact ⟨⟨q + 1, true, rfl, by go_num, by omega, hnext2, HS2⟩, by simp [intOf]; omega⟩
          | false =>
            by_cases hfx : (f == x) = true
            · have hnext2 : Hid (true = (nl.take (q + 1)).any (fun x => f == x || t == x)) := Lib.hid (by rw [← hnext.out, hfx]; rfl)
              clear hnext
              go_wp2_with fail
              (refine wp_region_gr (by kernel_rfl) (by kernel_rfl) ?_; (repeat (go_big_quiet_step (fail))); refine wpQuiet_nil ?_; intro _ hw'; obtain ⟨g', hw''⟩ := hw'; subst hw'')
              go_wp2_with fail
              have HS2 := Lib.hid (HS.out.grow (gr_below wr g'))
              exact ⟨⟨q + 1, true, rfl, by go_num, by omega, hnext2, HS2⟩, by simp [intOf]; omega⟩
            · have hfx2 : (f == x) = false := by simpa using hfx
              obtain ⟨e, he⟩ : ∃ e, e = (t == x) := ⟨_, rfl⟩
              have hnext2 : Hid (e = (nl.take (q + 1)).any (fun x => f == x || t == x)) := Lib.hid (by rw [← hnext.out, hfx2, he]; rfl)
              have he' := he.symm
              clear hnext hfx he
              cases e with
              | true =>
                go_wp2_with fail
                (refine wp_region_gr (by kernel_rfl) (by kernel_rfl) ?_; (repeat (go_big_quiet_step (fail))); refine wpQuiet_nil ?_; intro _ hw'; obtain ⟨g', hw''⟩ := hw'; subst hw'')
                go_wp2_with fail
                have HS2 := Lib.hid (HS.out.grow (gr_below wr g'))
                exact ⟨⟨q + 1, true, rfl, by go_num, by omega, hnext2, HS2⟩, by simp [intOf]; omega⟩
              | false =>
                go_wp2_with fail
                (refine wp_region_gr (by kernel_rfl) (by kernel_rfl) ?_; (repeat (go_big_quiet_step (fail))); refine wpQuiet_nil ?_; intro _ hw'; obtain ⟨g', hw''⟩ := hw'; subst hw'')
                go_wp2_with fail
                have HS2 := Lib.hid (HS.out.grow (gr_below wr g'))
                exact ⟨⟨q + 1, false, rfl, by go_num, by omega, hnext2, HS2⟩, by simp [intOf]; omega⟩
        · obtain rfl : q = z := by omega
          have hbh : b = hits nl l[j] := by rw [hits_any, Hb.out, Hz.out, List.take_length, ← Hq.out]
          have Hbh := Lib.hid hbh
          clear Hb hbh
          cases b with
          | true =>
            have hK2 : Hid (K = keptM nl (l.take (j + 1))) := Lib.hid (by rw [keptM_succ nl l j hjl, ← Hbh.out, HK.out]; simp)
            go_wp2_with fail
            exact ⟨⟨j + 1, K, nr, c2, m, rfl, by go_num, by omega, by omega, Hm, hK2, HS⟩, by simp [intOf]; omega⟩
          | false =>
            have hK2 : Hid (K ++ [l[j]] = keptM nl (l.take (j + 1))) := Lib.hid (by rw [keptM_succ nl l j hjl, ← Hbh.out, HK.out]; simp)
            have hR9 : Hid ((wr.alloc (.cells #[.int .i64 f, .int .i64 t, .slice ao bs.length cap, .bool sp] 72)).ownsRow W.heap.size 72 4 (.slice nr m c2) m (msR K)) := Lib.hid (row_grow HS.out.head (below_allocN wr _))
            have hNew : Hid (∀ k u, (msV ⟨f, t, ao, cap, bs, sp⟩)[k]? = some u → (wr.alloc (.cells #[.int .i64 f, .int .i64 t, .slice ao bs.length cap, .bool sp] 72)).cell? ((⟨wr.heap.size, 0, none⟩ : Addr).add k) = some u) := Lib.hid (World.news_of_block (heap_new wr _))
            have hWw := HS.out.b.size
            have hgs : g < wr.heap.size := lt_of_cellN c1
            have hme : Hid (msR (K ++ [l[j]]) = msR K ++ msV ⟨f, t, ao, cap, bs, sp⟩) := Lib.hid (by rw [msR_append, ← Hq.out]; simp [msR])
            have hm1 : Hid (m + 1 = (K ++ [l[j]]).length) := Lib.hid (by rw [Hm.out]; simp)
            go_wp2_with (at_builtin; go_must (refine wpList_append_lies _ rfl (.tmp 60) (.tmp 68) 48 rfl W.heap.size 72 i0 (.agg #[.int .i64 0, .int .i64 0, .slice none 0 0, .bool false]) 4 48 Try.underlying48 hii hz0 hz1 hz2 rfl (by decide) (.slice nr m c2) m (msR K) rfl hR9.out ⟨wr.heap.size, 0, none⟩ 1 1 (msV ⟨f, t, ao, cap, bs, sp⟩) rfl rfl hNew.out (msV_one _) (by decide) (by unfold maxLen; omega) (by omega) (by simp; omega) (wr.heap.size + 1) (by simp) ?_); intro g2 c5 w2 hown hgrow hg2 hglt; (have HS2 := Lib.hid (HS.out.step (t' := thRow W.heap.size 72 4 (some ⟨g2, 0, none⟩) (m + 1) c5 (msR (K ++ [l[j]]))) (keeps_rowR wr _ hgrow) (by (show w2.ownsRow W.heap.size 72 4 (.slice (some ⟨g2, 0, none⟩) (m + 1) c5) (m + 1) (msR (K ++ [l[j]]))); rw [hme.out]; exact hown) (fun x ⟨a, ha, hx⟩ => by cases ha; subst hx; rcases hg2 with h1 | h1; (exact .inl (ownBlock_of h1)); (right; show wr.heap.size ≤ g2; omega)))); clear hown hgrow hg2)
            exact ⟨⟨j + 1, K ++ [l[j]], some ⟨g2, 0, none⟩, c5, m + 1, rfl, by go_num, by omega, by omega, hm1, hK2, HS2⟩, by simp [intOf]; omega⟩
    · obtain rfl : j = n := by omega
      have hKf : K = keptM nl l := by rw [HK.out, Hn.out, List.take_length]
      have hfin := Lib.hid (HS.out.rdropped Hm.out (by rw [hKf]; exact List.filter_sublist))
      have hlen : Hid (((j : Int) - m) = (l.length : Int) - (keptM nl l).length) := Lib.hid (by rw [Hm.out, Hn.out, hKf])
      have HKf := Lib.hid hKf
      clear hKf
      go_wp2_with fail
      go_ret
      exact ⟨nr, c2, by rw [← hlen.out]; rfl, by have := hfin.out; rwa [HKf.out] at this⟩
def RDropCt (W : World) (p : Nat) (nl : List Int) (C : List Ct) (R : List Th) (e : Ending) (w' : World) : Prop := e = .returned (.int .i64 ((C.length : Int) - (keptC nl C).length)) ∧ RefAt W w' p (keptC nl C) R
theorem rdrop_ct {W w : World} {p : Nat} {C : List Ct} {R : List Th} (h : RefAt W w p C R) (no : Option Addr) (nc : Nat) (nl : List Int) (hN : ∀ w' X, St W w' (X ++ R) → IntsAt w' no nl) (k : Nat) (hk : k = nl.length) (hNm : nl.length ≤ 9223372036854775807) :
    Calls Try.prog 34 #[.pointer (some ⟨p, 0, none⟩), .slice no k nc] w (RDropCt W p nl C R) := by
  subst hk
  obtain ⟨ro, rc, l, rfl, h2, h3, h4⟩ := h
  unfold RDropCt
  refine (rdrop_any W w R p ro rc l no nc nl h4 h3 hN hNm).mono ?_
  rintro e w' ⟨ro', rc', rfl, hS⟩
  rw [← keptM_ct, List.length_map, List.length_map]
  exact ⟨rfl, ro', rc', _, rfl, fun m hm => h2 m (List.mem_filter.1 hm).1, Nat.le_trans (List.length_filter_le _ _) h3, hS⟩
end Go.Proofs.Ytcboflabjdiadaa
