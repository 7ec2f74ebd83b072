/- The document's Twice. -/
import Derived.Test.YtcboflabjdiadaaRNg
namespace Go.Proofs.Ytcboflabjdiadaa
open Go.RowKit

theorem ref_cells {base : Nat} {w : World} {p g rc : Nat} {l : List Ms} (hT : (thNetref base p (some ⟨g, 0, none⟩) rc l).T w) (i : Nat) (hi : i < l.length) :
    w.cell? ⟨g, i * 4, none⟩ = some (.int .i64 l[i].f) ∧ w.cell? ⟨g, i * 4 + 1, none⟩ = some (.int .i64 l[i].t) ∧ w.cell? ⟨g, i * 4 + 2, none⟩ = some (.slice l[i].ao l[i].bs.length l[i].cap) ∧ w.cell? ⟨g, i * 4 + 3, none⟩ = some (.bool l[i].sp) := by
  have hc : ∀ j, j < 4 → w.cell? ⟨g, i * 4 + j, none⟩ = (msV l[i])[j]? := fun j hj => by rw [← msR_get l i hi j hj]; simpa using hT.2.1.cellAt (i * 4 + j) (by omega)
  exact ⟨hc 0 (by omega), hc 1 (by omega), hc 2 (by omega), hc 3 (by omega)⟩
theorem ref_own {W w : World} {R : List Th} {p rc : Nat} {ro : Option Addr} {l : List Ms} (h : St W w (netrefL W.heap.size p ro rc l ++ R)) (i : Nat) (hi : i < l.length) : OwnB w W.heap.size l[i].ao l[i].cap l[i].bs :=
  St.mem (t := thD W.heap.size l[i]) h (List.mem_append.2 (.inl (List.mem_cons_of_mem _ (List.mem_map.2 ⟨_, List.getElem_mem hi, rfl⟩))))
set_option maxRecDepth 20000 in
theorem rtwice_no (W w : World) (R : List Th) (p : Nat) (ro : Option Addr) (rc : Nat) (l : List Ms) (pick : Int) (h : St W w (netrefL W.heap.size p ro rc l ++ R)) (hl : l.length = 0 ∨ 1024 ≤ l.length) :
    Calls Try.prog 31 #[.pointer (some ⟨p, 0, none⟩), .int .i64 pick] w fun e w' => e = .returned (.bool false) ∧ Below w.heap.size w w' := by
  have hT : (thNetref W.heap.size p ro rc l).T w := h.head
  obtain ⟨c0, f0⟩ := cell_of_one hT.1
  have hplt := lt_of_block hT.1
  obtain ⟨n, hn⟩ : ∃ n, n = l.length := ⟨_, rfl⟩
  rw [← hn] at c0 hl
  clear h hT hn
  rcases hl with hl | hl
  · have e1 : ((n : Int) == 0) = true := by rw [beq_iff_eq]; omega
    have e2 : (n == 0) = true := by rw [beq_iff_eq]; exact hl
    clear hl
    go_enter Try.func31, Try.ntmps31
    go_wp2_with fail
    go_ret
    exact ⟨rfl, (by repeat (first | with_reducible exact Below.refl _ _ | with_reducible assumption | with_reducible refine Below.drew ?_ | with_reducible refine below_drawn ?_ | with_reducible refine Below.alloc ?_ (by first | omega | (simp; done) | (simp; omega) | (simp at *; omega)) _ | with_reducible refine Below.setCell ?_ (by first | omega | (simp; done) | (simp; omega) | (simp at *; omega)) _ | with_reducible refine Below.trans ?_ (Below.mono (by assumption) (by first | omega | (simp; done) | (simp; omega) | (simp at *; omega)))))⟩
  · have e1 : ((n : Int) == 0) = false := by rw [beq_eq_false_iff_ne]; omega
    have e2 : decide ((1024 : Int) ≤ n) = true := by rw [decide_eq_true_eq]; omega
    have e3 : decide (1024 ≤ n) = true := by rw [decide_eq_true_eq]; exact hl
    have e4 : ¬ n = 0 := by omega
    go_enter Try.func31, Try.ntmps31
    go_wp2_with fail
    go_ret
    exact ⟨rfl, (by repeat (first | with_reducible exact Below.refl _ _ | with_reducible assumption | with_reducible refine Below.drew ?_ | with_reducible refine below_drawn ?_ | with_reducible refine Below.alloc ?_ (by first | omega | (simp; done) | (simp; omega) | (simp at *; omega)) _ | with_reducible refine Below.setCell ?_ (by first | omega | (simp; done) | (simp; omega) | (simp at *; omega)) _ | with_reducible refine Below.trans ?_ (Below.mono (by assumption) (by first | omega | (simp; done) | (simp; omega) | (simp at *; omega)))))⟩
set_option maxRecDepth 20000 in
set_option maxHeartbeats 4000000 in
theorem rtwice_yes (W w : World) (R : List Th) (p : Nat) (ro : Option Addr) (rc : Nat) (l : List Ms) (pick : Int) (i : Nat) (hi : i < l.length) (hpi : i = pickOf l.length pick) (h : St W w (netrefL W.heap.size p ro rc l ++ R)) (hm : l.length < 1024) (hB : l[i].bs.length ≤ 140737488351232) :
    Calls Try.prog 31 #[.pointer (some ⟨p, 0, none⟩), .int .i64 pick] w (RMorePost W R p l l[i]) := by
  obtain ⟨i0, hii, hz0, hz1, hz2⟩ := info_parts itemInfo
  have hT : (thNetref W.heap.size p ro rc l).T w := h.head
  obtain ⟨g, rfl, hg⟩ := row_form hT.2.1 (by omega)
  obtain ⟨c0, f0⟩ := cell_of_one hT.1
  obtain ⟨c1, c2, c3, c4⟩ := ref_cells hT i hi
  have hplt := lt_of_block hT.1
  have hO := ref_own h i hi
  have hnp : ¬ ∃ a, (some ⟨g, 0, none⟩ : Option Addr) = some a ∧ a.block = p := fun ⟨a, ha, hx⟩ => hT.2.2 a ha hx
  have H := Lib.hid h
  obtain ⟨f, t, ao, cap, bs, sp, hq⟩ : ∃ f t ao cap bs sp, (⟨f, t, ao, cap, bs, sp⟩ : Ms) = l[i] := ⟨_, _, _, _, _, _, rfl⟩
  rw [← hq] at c1 c2 c3 c4 hO hB
  simp only at c1 c2 c3 c4 hO hB
  have Hq := Lib.hid hq
  obtain ⟨n, hn⟩ : ∃ n, n = l.length := ⟨_, rfl⟩
  have hn0 : ¬ (n : Int) = 0 := by omega
  have hne : ((n : Int) == 0) = false := by rw [beq_eq_false_iff_ne]; exact hn0
  have hn1 : ¬ n = 0 := by omega
  obtain ⟨m, hm0⟩ : ∃ m : Nat, m = (max 0 pick).toNat := ⟨_, rfl⟩
  have hmax : max (0 : Int) pick = m := by rw [hm0]; omega
  have hp : i = m % n := by rw [hpi, hn]; unfold pickOf; rw [← hm0]
  have ht : ((m : Int).tmod (n : Int)) = (i : Int) := by rw [Int.tmod_eq_emod_of_nonneg (by omega), hp]; rfl
  have hi63 : (i : Int) < n := by omega
  have hi0 : (0 : Int) ≤ i := by omega
  rw [← hn] at hm c0
  have e1 : decide ((1024 : Int) ≤ n) = false := by rw [decide_eq_false_iff_not]; omega
  have e2 : decide (1024 ≤ n) = false := by rw [decide_eq_false_iff_not]; omega
  have Hn := Lib.hid hn
  have Hnp : Hid (¬ ∃ a, (some ⟨g, 0, none⟩ : Option Addr) = some a ∧ a.block = p) := Lib.hid hnp
  have HOw := Lib.hid hO
  clear h hT hq hpi hm0 hp hn hnp hO
  unfold RMorePost
  go_enter Try.func31, Try.ntmps31
  go_wp2_with fail
  (refine wp_name fun wx hwx => ?_; have wx_s0 : p < wx.heap.size := (by rw [hwx]; first | omega | (simp; done) | (simp; omega)); have wx_s1 : g < wx.heap.size := (by rw [hwx]; first | omega | (simp; done) | (simp; omega)); have wx_c0 : wx.cell? ⟨p, 0, none⟩ = some (.slice (some ⟨g, 0, none⟩) n rc) := (by rw [hwx]; go_simp); have wx_c1 : wx.cell? ⟨g, i * 4, none⟩ = some (.int .i64 f) := (by rw [hwx]; go_simp); have wx_c2 : wx.cell? ⟨g, i * 4 + 1, none⟩ = some (.int .i64 t) := (by rw [hwx]; go_simp); have wx_c3 : wx.cell? ⟨g, i * 4 + 2, none⟩ = some (.slice ao bs.length cap) := (by rw [hwx]; go_simp); have wx_c4 : wx.cell? ⟨g, i * 4 + 3, none⟩ = some (.bool sp) := (by rw [hwx]; go_simp); have wx_b : Below w.heap.size w wx := (by rw [hwx]; exact (by repeat (first | with_reducible exact Below.refl _ _ | with_reducible assumption | with_reducible refine Below.drew ?_ | with_reducible refine below_drawn ?_ | with_reducible refine Below.alloc ?_ (by first | omega | (simp; done) | (simp; omega) | (simp at *; omega)) _ | with_reducible refine Below.setCell ?_ (by first | omega | (simp; done) | (simp; omega) | (simp at *; omega)) _ | with_reducible refine Below.trans ?_ (Below.mono (by assumption) (by first | omega | (simp; done) | (simp; omega) | (simp at *; omega)))))); clear hwx)
  have wx_le := wx_b.size
  go_region_held3 (fun W => Below wx.heap.size wx W ∧ ∀ b o, b < wx.heap.size → W.cell? ⟨b, o, none⟩ = wx.cell? ⟨b, o, none⟩) (first | exact stay_drew _ | exact stay_next (by assumption) (by assumption) | exact stay_mk (by repeat (first | with_reducible exact Below.refl _ _ | with_reducible exact stay_below (by assumption) | with_reducible refine Below.drew ?_ | with_reducible refine Below.alloc ?_ (by first | omega | (simp; done) | (simp; omega) | (simp at *; omega)) _ | with_reducible refine Below.setCell ?_ (by first | omega | (simp; done) | (simp; omega) | (simp at *; omega)) _ | with_reducible refine Below.trans ?_ (Below.mono (by assumption) (by first | omega | (simp; done) | (simp; omega) | (simp at *; omega)))))) (fail)
  all_goals
    go_wp2_with fail
    refine wp_name fun wa hwa => ?_
    have hb : Below w.heap.size w wa := by rw [hwa]; exact (by repeat (first | with_reducible exact Below.refl _ _ | with_reducible assumption | with_reducible refine Below.drew ?_ | with_reducible refine below_drawn ?_ | with_reducible refine Below.alloc ?_ (by first | omega | (simp; done) | (simp; omega) | (simp at *; omega)) _ | with_reducible refine Below.setCell ?_ (by first | omega | (simp; done) | (simp; omega) | (simp at *; omega)) _ | with_reducible refine Below.trans ?_ (Below.mono (by assumption) (by first | omega | (simp; done) | (simp; omega) | (simp at *; omega)))))
    obtain ⟨A, hA⟩ : ∃ A, A = wx.heap.size := ⟨_, rfl⟩
    have a0 : wa.cell? ⟨A, 0, none⟩ = some (.int .i64 f) := by rw [hwa, hA]; go_simp
    have a1 : wa.cell? ⟨A, 1, none⟩ = some (.int .i64 t) := by rw [hwa, hA]; go_simp
    have a2 : wa.cell? ⟨A, 2, none⟩ = some (.slice ao bs.length cap) := by rw [hwa, hA]; go_simp
    have a3 : wa.cell? ⟨A, 3, none⟩ = some (.bool sp) := by rw [hwa, hA]; go_simp
    have hAs : A < wa.heap.size := by rw [hwa, hA]; simp
    rw [← hA]
    have S2 := Lib.hid (H.out.grow hb)
    have hT : (thNetref W.heap.size p (some ⟨g, 0, none⟩) rc l).T wa := S2.out.head
    obtain ⟨d0, g0⟩ := cell_of_one hT.1
    have wa_p := lt_of_block hT.1
    have hrow := hT.2.1
    rw [← Hn.out] at d0 hrow
    have HR := Lib.hid hrow
    have HR9 : Hid (∀ w9, Below wa.heap.size wa w9 → w9.ownsRow W.heap.size 72 4 (.slice (some ⟨g, 0, none⟩) n rc) n (msR l)) := Lib.hid (fun w9 b => row_grow HR.out b)
    have hWw := S2.out.b.size
    have HO := Lib.hid (own_grow HOw.out hb)
    clear hwa hA hT hrow hb
    go_region_law (first | ((refine at_goN 40 _ _ (by rfl) ?_); go_simp; go_at_call 40; (refine (rownM_any f t ao cap bs _ HO.out.none (HO.out.at.below (Below.refl _ _).drew) hB).mono ?_); (rintro e w9 ⟨co, cc, rfl, ho, hb9⟩); (have hb9' : Below wa.heap.size wa w9 := (Below.refl _ _).drew.trans hb9); (have HO9 := Lib.hid ho); (obtain ⟨xc, xf⟩ := bcell hb9'); (have p0 := (xc p 0 wa_p).trans d0); (have pf := (xf p 0 wa_p).trans g0); (have hs9 := hb9'.size); (have p9 : p < w9.heap.size := (by omega)); (have x0 := (xc _ 0 hAs).trans a0); (have x1 := (xc _ 1 hAs).trans a1); (have x2 := (xc _ 2 hAs).trans a2); (have x3 := (xc _ 3 hAs).trans a3); (have HB9 := Lib.hid hb9'); clear ho hb9 hb9' xc xf) | ((go_must (refine step_append_lies _ rfl (.tmp 38) (.tmp 45) 48 rfl W.heap.size 72 i0 (.agg #[.int .i64 0, .int .i64 0, .slice none 0 0, .bool false]) 4 48 Try.underlying48 hii hz0 hz1 hz2 rfl ?_ (.slice (some ⟨g, 0, none⟩) n rc) n (msR l) ?_ ((HR9.out w9 HB9.out).alloc _) ⟨w9.heap.size, 0, none⟩ 1 1 (msV ⟨f, t, co, cc, bs, sp⟩) ?_ rfl (World.news_of_block (heap_new w9 _)) (msV_one _) ?_ ?_ ?_ ?_ (w9.heap.size + 1) ?_ ?_)); (focus (decide)); (focus (rfl)); (focus (rfl)); (focus (decide)); (focus ((unfold maxLen); omega)); (focus (omega)); (focus first | (simp; done) | (simp; omega)); (focus (simp; done)); intro gg c2 w2 hown hgrow hg hglt; (have K2 : Keeps w9 w2 (fun x => ∃ a, (some ⟨g, 0, none⟩ : Option Addr) = some a ∧ a.block = x) := keeps_rowR w9 _ hgrow); (have k4 := (K2.cell (p := ⟨p, 0, none⟩) p9 Hnp.out).trans p0); (have k5 := (K2.frozen (p := ⟨p, 0, none⟩) p9 Hnp.out).trans pf); (have HK2 := Lib.hid K2); (have HOW := Lib.hid hown); (have HGG : Hid ((∃ a, (some ⟨g, 0, none⟩ : Option Addr) = some a ∧ a.block = gg) ∨ w9.heap.size ≤ gg) := (by rcases hg with h1 | h1; (exact .inl (ownBlock_of h1)); (exact .inr (by omega)))); clear hown hgrow hg K2) | fail)
    all_goals
      have hS := Lib.hid (St.rlaidN S2.out HB9.out HO9.out HK2.out Hn.out HOW.out HGG.out)
      clear HOW HGG HK2 HO9
      go_wp2_with fail
      go_ret
      exact ⟨some ⟨gg, 0, none⟩, c2, ⟨f, t, co, cc, bs, sp⟩, rfl, (by rw [← Hq.out]; rfl), hS.out⟩
end Go.Proofs.Ytcboflabjdiadaa
