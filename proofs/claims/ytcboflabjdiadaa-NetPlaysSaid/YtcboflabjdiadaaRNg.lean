/- The document's Give, Late. -/
import Derived.Test.YtcboflabjdiadaaRNt
namespace Go.Proofs.Ytcboflabjdiadaa
open Go.RowKit

def RGivePost (W : World) (R : List Th) (p : Nat) (l : List Ms) (i : Nat) (hi : i < l.length) (e : Ending) (w' : World) : Prop := ∃ ro' rc', e = .returned (.tuple #[msG l[i], .bool true]) ∧ St W w' (thD W.heap.size l[i] :: (netrefL W.heap.size p ro' rc' (l.eraseIdx i) ++ R))
set_option maxRecDepth 20000 in
set_option maxHeartbeats 4000000 in
theorem rgive_yes (W w : World) (R : List Th) (p : Nat) (ro : Option Addr) (rc : Nat) (l : List Ms) (pick : Int) (i : Nat) (hi : i < l.length) (hpi : i = pickOf l.length pick) (h : St W w (netrefL W.heap.size p ro rc l ++ R)) (hm : l.length ≤ 1024) :
    Calls Try.prog 30 #[.pointer (some ⟨p, 0, none⟩), .int .i64 pick] w (RGivePost W R p l i hi) := by
  have Htk := Lib.hid (rtakes_yes W _ (thObj w.heap.size (.cells #[.int .i64 0, .int .i64 0, .slice none 0 0] 35 (0, 0)) :: R) p ro rc l pick i hi hpi ((h.obj _).perm List.perm_middle.symm) hm)
  obtain ⟨f, t, ao, cap, bs, sp, hq⟩ : ∃ f t ao cap bs sp, (⟨f, t, ao, cap, bs, sp⟩ : Ms) = l[i] := ⟨_, _, _, _, _, _, rfl⟩
  have Hq := Lib.hid hq
  clear h hq hpi
  unfold RGivePost
  go_enter Try.func30, Try.ntmps30
  go_wp2_with fail
  refine Htk.out.mono ?_
  rintro e w1 ⟨ro', rc', rfl, hS⟩
  have S1 := Lib.hid (hS.pull (A := thD W.heap.size l[i] :: netrefL W.heap.size p ro' rc' (l.eraseIdx i)))
  obtain ⟨hc, hf⟩ := cells_of_obj S1.out.head
  have z0 := hc 0
  have z1 := hc 1
  have z2 := hc 2
  have y0 := hf 0
  have y1 := hf 1
  have y2 := hf 2
  have hlt := lt_of_block S1.out.head
  simp only [List.getElem?_toArray, List.getElem?_cons_zero, List.getElem?_cons_succ] at z0 z1 z2
  clear hS hc hf
  rw [← Hq.out]
  unfold msA
  go_wp2_with fail
  refine bodyPost_ret (v := .tuple #[msG ⟨f, t, ao, cap, bs, sp⟩, .bool true]) (by simp only [results, Try.results30]; go_simp; rfl) rfl ?_
  refine ⟨ro', rc', by rw [← Hq.out], ?_⟩
  exact ((((S1.out.to_free.set_free 0 _).set_free 1 _).set_free 2 _).drop).grow (below_allocN _ _)
set_option maxRecDepth 20000 in
theorem rgive_no (W w : World) (R : List Th) (p : Nat) (ro : Option Addr) (rc : Nat) (pick : Int) (h : St W w (netrefL W.heap.size p ro rc [] ++ R)) :
    Calls Try.prog 30 #[.pointer (some ⟨p, 0, none⟩), .int .i64 pick] w fun e w' => e = .returned (.tuple #[zM, .bool false]) ∧ Below w.heap.size w w' := by
  have Htk := Lib.hid (fun w' (b : Below w.heap.size w w') => rtakes_no W w' R p ro rc pick (h.grow b))
  clear h
  go_enter Try.func30, Try.ntmps30
  go_wp2_with fail
  refine (Htk.out _ (below_allocN _ _)).mono ?_
  rintro e w1 ⟨rfl, hb⟩
  have hb1 := Lib.hid hb
  have hs := hb.size
  simp only [World.alloc, Array.size_push] at hs
  have hlt : w.heap.size < w1.heap.size := by omega
  have z0 := (hb.cell (p := ⟨w.heap.size, 0, none⟩) (by simp)).trans (by go_simp : _ = some (.int .i64 0))
  have z1 := (hb.cell (p := ⟨w.heap.size, 1, none⟩) (by simp)).trans (by go_simp : _ = some (.int .i64 0))
  have z2 := (hb.cell (p := ⟨w.heap.size, 2, none⟩) (by simp)).trans (by go_simp : _ = some (.slice none 0 0))
  have y0 := (hb.frozen (p := ⟨w.heap.size, 0, none⟩) (by simp)).trans (by go_simp : _ = false)
  have y1 := (hb.frozen (p := ⟨w.heap.size, 1, none⟩) (by simp)).trans (by go_simp : _ = false)
  have y2 := (hb.frozen (p := ⟨w.heap.size, 2, none⟩) (by simp)).trans (by go_simp : _ = false)
  clear hb
  have hw1 := (below_allocN w (.cells #[.int .i64 0, .int .i64 0, .slice none 0 0] 35)).trans (hb1.out.mono (by simp))
  go_wp2_with fail
  refine bodyPost_ret (v := .tuple #[zM, .bool false]) (by simp only [results, Try.results30]; go_simp; rfl) rfl ?_
  exact ⟨rfl, (by repeat (first | with_reducible exact Below.refl _ _ | with_reducible assumption | with_reducible refine Below.drew ?_ | with_reducible refine below_drawn ?_ | with_reducible refine Below.alloc ?_ (by first | omega | (simp; done) | (simp; omega) | (simp at *; omega)) _ | with_reducible refine Below.setCell ?_ (by first | omega | (simp; done) | (simp; omega) | (simp at *; omega)) _ | with_reducible refine Below.trans ?_ (Below.mono (by assumption) (by first | omega | (simp; done) | (simp; omega) | (simp at *; omega)))))⟩
set_option maxRecDepth 20000 in
theorem rlate_no (W w : World) (R : List Th) (p : Nat) (ro : Option Addr) (rc : Nat) (pick : Int) (h : St W w (netrefL W.heap.size p ro rc [] ++ R)) :
    Calls Try.prog 32 #[.pointer (some ⟨p, 0, none⟩), .int .i64 pick] w fun e w' => e = .returned (.bool false) ∧ Below w.heap.size w w' := by
  have Htk := Lib.hid (rtakes_no W w R p ro rc pick h)
  clear h
  go_enter Try.func32, Try.ntmps32
  go_wp2_with fail
  refine Htk.out.mono ?_
  rintro e w1 ⟨rfl, hb⟩
  have hs := hb.size
  go_wp2_with fail
  go_ret
  exact ⟨rfl, hb.alloc hs _⟩
def RMorePost (W : World) (R : List Th) (p : Nat) (l : List Ms) (m : Ms) (e : Ending) (w' : World) : Prop := ∃ ro' rc' m', e = .returned (.bool true) ∧ ct m' = ct m ∧ St W w' (netrefL W.heap.size p ro' rc' (l ++ [m']) ++ R)
set_option maxRecDepth 20000 in
set_option maxHeartbeats 4000000 in
theorem rlate_yes (W w : World) (R : List Th) (p : Nat) (ro : Option Addr) (rc : Nat) (l : List Ms) (pick : Int) (i : Nat) (hi : i < l.length) (hpi : i = pickOf l.length pick) (h : St W w (netrefL W.heap.size p ro rc l ++ R)) (hm : l.length ≤ 1024) :
    Calls Try.prog 32 #[.pointer (some ⟨p, 0, none⟩), .int .i64 pick] w (RMorePost W R p (l.eraseIdx i) l[i]) := by
  obtain ⟨i0, hii, hz0, hz1, hz2⟩ := info_parts itemInfo
  have Htk := Lib.hid (rtakes_yes W _ R p ro rc l pick i hi hpi h hm)
  have hel : (l.eraseIdx i).length = l.length - 1 := by rw [List.length_eraseIdx]; simp only [hi, if_true]
  obtain ⟨f, t, ao, cap, bs, sp, hq⟩ : ∃ f t ao cap bs sp, (⟨f, t, ao, cap, bs, sp⟩ : Ms) = l[i] := ⟨_, _, _, _, _, _, rfl⟩
  have Hq := Lib.hid hq
  obtain ⟨ll, hll⟩ : ∃ ll, ll = l.eraseIdx i := ⟨_, rfl⟩
  obtain ⟨n, hn⟩ : ∃ n, n = ll.length := ⟨_, rfl⟩
  have hn2 : n ≤ 1023 := by rw [hn, hll]; omega
  have Hll := Lib.hid hll
  have Hn := Lib.hid hn
  rw [← hll]
  clear h hq hpi hel hll hn
  unfold RMorePost
  go_enter Try.func32, Try.ntmps32
  go_wp2_with fail
  refine Htk.out.mono ?_
  rintro e w1 ⟨ro', rc', rfl, hS⟩
  rw [← Hq.out, ← Hll.out] at hS
  rw [← Hq.out]
  have S1 := Lib.hid hS
  clear hS
  unfold msA
  go_wp2_with fail
  refine wp_name fun wa hwa => ?_
  have S2 : Hid (St W wa (thD W.heap.size ⟨f, t, ao, cap, bs, sp⟩ :: (netrefL W.heap.size p ro' rc' ll ++ R))) := by rw [hwa]; exact Lib.hid (S1.out.grow (below_allocN w1 _))
  obtain ⟨A, hA⟩ : ∃ A, A = w1.heap.size := ⟨_, rfl⟩
  have a0 : wa.cell? ⟨A, 0, none⟩ = some (.int .i64 f) := by rw [hwa, hA]; go_simp
  have a1 : wa.cell? ⟨A, 1, none⟩ = some (.int .i64 t) := by rw [hwa, hA]; go_simp
  have a2 : wa.cell? ⟨A, 2, none⟩ = some (.slice ao bs.length cap) := by rw [hwa, hA]; go_simp
  have a3 : wa.cell? ⟨A, 3, none⟩ = some (.bool sp) := by rw [hwa, hA]; go_simp
  have hAs : A < wa.heap.size := by rw [hwa, hA]; simp
  rw [← hA]
  have hT : (thNetref W.heap.size p ro' rc' ll).T wa := (S2.out.pull (A := [_])).head
  obtain ⟨d0, g0⟩ := cell_of_one hT.1
  have hpB := lt_of_block hT.1
  have hrow := hT.2.1
  rw [← Hn.out] at d0 hrow
  have HR := Lib.hid hrow
  have Hnp : Hid (¬ ∃ a, ro' = some a ∧ a.block = p) := Lib.hid (fun ⟨a, ha, hx⟩ => hT.2.2 a ha hx)
  have hWw := S2.out.b.size
  have HN : Hid (∀ ad, some (⟨wa.heap.size, 0, none⟩ : Addr) = some ad → ∀ j u, (msV ⟨f, t, ao, cap, bs, sp⟩)[j]? = some u → (wa.alloc (.cells #[.int .i64 f, .int .i64 t, .slice ao bs.length cap, .bool sp] 72)).cell? (ad.add j) = some u) := by
    intro ad had
    cases had
    exact World.news_of_block (heap_new wa _)
  clear hwa hA S1 hT hrow
  go_region_law (first | (((refine step_append_lies _ rfl (.tmp 18) (.tmp 20) 48 rfl W.heap.size 72 i0 (.agg #[.int .i64 0, .int .i64 0, .slice none 0 0, .bool false]) 4 48 Try.underlying48 hii hz0 hz1 hz2 rfl ?_ (.slice ro' n rc') n (msR ll) ?_ (owns_drewA (HR.out.alloc _)) ⟨wa.heap.size, 0, none⟩ 1 1 (msV ⟨f, t, ao, cap, bs, sp⟩) ?_ rfl (HN.out _ rfl) (msV_one _) ?_ ?_ ?_ ?_ (wa.heap.size + 1) ?_ ?_)); (focus (decide)); (focus (rfl)); (focus (rfl)); (focus (decide)); (focus ((unfold maxLen); omega)); (focus (omega)); (focus first | (simp; done) | (simp; omega)); (focus (simp; done)); intro g c2 w2 hown hgrow hg hglt; (have K2 : Keeps wa w2 (fun x => ∃ a, ro' = some a ∧ a.block = x) := keeps_row wa _ hgrow); (have k4 := (K2.cell (p := ⟨p, 0, none⟩) hpB Hnp.out).trans d0); (have k5 := (K2.frozen (p := ⟨p, 0, none⟩) hpB Hnp.out).trans g0); (have HK2 := Lib.hid K2); (have HOW := Lib.hid hown); (have HGG : Hid ((∃ a, ro' = some a ∧ a.block = g) ∨ wa.heap.size ≤ g) := (by rcases hg with h1 | h1; (exact .inl (ownBlock_of h1)); (exact .inr (by omega)))); clear hown hgrow hg K2) | fail)
  all_goals
    have hfin : Hid (St W (w2.setCell ⟨p, 0, none⟩ (.slice (some ⟨g, 0, none⟩) (n + 1) c2)) (netrefL W.heap.size p (some ⟨g, 0, none⟩) c2 (ll ++ [⟨f, t, ao, cap, bs, sp⟩]) ++ R)) := by
      have h1 := HOW.out
      rw [Hn.out] at h1 ⊢
      exact Lib.hid (St.rlaid S2.out HK2.out h1 HGG.out)
    clear HOW HK2 HGG
    go_wp2_with fail
    go_ret
    exact ⟨some ⟨g, 0, none⟩, c2, ⟨f, t, ao, cap, bs, sp⟩, rfl, congrArg ct Hq.out, hfin.out⟩
end Go.Proofs.Ytcboflabjdiadaa
