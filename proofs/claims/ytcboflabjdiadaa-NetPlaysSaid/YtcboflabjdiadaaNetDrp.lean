/- The contract of Drop. -/
import Derived.Test.YtcboflabjdiadaaNetDf
namespace Go.Proofs.Ytcboflabjdiadaa
open Go.RowKit

theorem Ths.sub {B : Nat} {w : World} {L L' : List Th} (h : L'.Sublist L) : Ths B w L → Ths B w L' := by
  induction h with
  | slnil => exact id
  | cons t _ ih => exact fun hl => ih hl.2.2.2
  | cons_cons t hs ih => exact fun hl => ⟨hl.1, hl.2.1, fun u hu => hl.2.2.1 u (hs.subset hu), ih hl.2.2.2⟩
theorem St.sub {W w : World} {L L' : List Th} (h : St W w L) (s : L'.Sublist L) : St W w L' := ⟨h.b, h.t.sub s⟩
set_option maxRecDepth 20000 in
theorem drop_nil (no : Option Addr) (nc : Nat) (nl : List Int) (w : World) :
    Calls Try.prog 23 #[.pointer none, .slice no nl.length nc] w fun e w' => e = .returned (.int .i64 0) ∧ Below w.heap.size w w' := by
  go_enter Try.func23, Try.ntmps23
  go_wp2_with fail
  refine (len_nil _).mono ?_
  rintro e w' ⟨rfl, rfl⟩
  go_wp2_with fail
  refine (len_nil _).mono ?_
  rintro e w' ⟨rfl, rfl⟩
  go_wp2_with fail
  go_ret
  exact ⟨rfl, (by repeat (first | with_reducible exact Below.refl _ _ | with_reducible assumption | with_reducible refine Below.drew ?_ | with_reducible refine below_drawn ?_ | with_reducible refine Below.alloc ?_ (by first | omega | (simp; done) | (simp; omega) | (simp at *; omega)) _ | with_reducible refine Below.setCell ?_ (by first | omega | (simp; done) | (simp; omega) | (simp at *; omega)) _ | with_reducible refine Below.trans ?_ (Below.mono (by assumption) (by first | omega | (simp; done) | (simp; omega) | (simp at *; omega)))))⟩
set_option maxRecDepth 20000 in
theorem drop_empty (W w : World) (R : List Th) (p : Nat) (ro : Option Addr) (rc : Nat) (no : Option Addr) (nc : Nat) (nl : List Int) (h : St W w (netnetL W.heap.size p ro rc [] ++ R)) :
    Calls Try.prog 23 #[.pointer (some ⟨p, 0, none⟩), .slice no nl.length nc] w fun e w' => e = .returned (.int .i64 0) ∧ Below w.heap.size w w' := by
  have H := Lib.hid h
  clear h
  go_enter Try.func23, Try.ntmps23
  go_wp2_with fail
  refine (len_any W.heap.size p ro rc [] _ (H.out.grow (below_allocN _ _)).head).mono ?_
  rintro e w' ⟨rfl, rfl⟩
  simp only [List.length_nil, Int.natCast_zero]
  go_wp2_with fail
  refine (len_any W.heap.size p ro rc [] _ (H.out.grow (below_allocN _ _)).head).mono ?_
  rintro e w' ⟨rfl, rfl⟩
  simp only [List.length_nil, Int.natCast_zero]
  go_wp2_with fail
  go_ret
  exact ⟨rfl, (by repeat (first | with_reducible exact Below.refl _ _ | with_reducible assumption | with_reducible refine Below.drew ?_ | with_reducible refine below_drawn ?_ | with_reducible refine Below.alloc ?_ (by first | omega | (simp; done) | (simp; omega) | (simp at *; omega)) _ | with_reducible refine Below.setCell ?_ (by first | omega | (simp; done) | (simp; omega) | (simp at *; omega)) _ | with_reducible refine Below.trans ?_ (Below.mono (by assumption) (by first | omega | (simp; done) | (simp; omega) | (simp at *; omega)))))⟩
def DropPost (W : World) (R : List Th) (p : Nat) (l : List Ms) (nl : List Int) (e : Ending) (w' : World) : Prop := ∃ ro' rc', e = .returned (.int .i64 ((l.length : Int) - (keptM nl l).length)) ∧ St W w' (netnetL W.heap.size p ro' rc' (keptM nl l) ++ R)
set_option maxRecDepth 20000 in
set_option maxHeartbeats 4000000 in
theorem drop_yes (W w : World) (R : List Th) (p : Nat) (ro : Option Addr) (rc : Nat) (l : List Ms) (no : Option Addr) (nc : Nat) (nl : List Int) (h : St W w (netnetL W.heap.size p ro rc l ++ R)) (hl : 0 < l.length) (hm : l.length ≤ 1024) (hN : ∀ w' X, St W w' (X ++ R) → IntsAt w' no nl) (hNm : nl.length ≤ 9223372036854775807) :
    Calls Try.prog 23 #[.pointer (some ⟨p, 0, none⟩), .slice no nl.length nc] w (DropPost W R p l nl) := by
  have hT : (thNetnet W.heap.size p ro rc l).T w := h.head
  obtain ⟨g, rfl, hg⟩ := row_form hT.2.1 hl
  obtain ⟨c0, f0⟩ := cell_of_one hT.1
  have hplt := lt_of_block hT.1
  have hgp : g ≠ p := hT.2.2 _ rfl
  have S0 := (h.obj (.cells #[.slice no nl.length nc] 23)).perm (List.perm_middle (l₁ := netnetL W.heap.size p (some ⟨g, 0, none⟩) rc l)).symm
  have hKN : ∀ w', Keeps (w.alloc (.cells #[.slice no nl.length nc] 23)) w' (fun x => x = g) → IntsAt w' no nl ∧ w'.cell? ⟨w.heap.size, 0, none⟩ = some (.slice no nl.length nc) := fun w' k => by
    have S1 := S0.lose (k.weak (T := (thNetnet W.heap.size p (some ⟨g, 0, none⟩) rc l).F) (fun x _ e => .inr ⟨_, rfl, e.symm⟩))
    have S2 := S1.pull (A := l.map (thD W.heap.size))
    refine ⟨hN w' (_ :: l.map (thD W.heap.size)) S2, ?_⟩
    exact (cells_of_obj S2.head).1 0
  have hdf := deleteFunc_any W.heap.size g rc l w.heap.size no nc nl (w.alloc (.cells #[.slice no nl.length nc] 23)) (St.head S0).2.1 hKN hNm hm
  have Hdf := Lib.hid hdf
  have HS0 := Lib.hid S0
  have hli : (0 : Int) < l.length := by omega
  clear S0 hKN hdf h hT
  unfold DropPost
  go_enter Try.func23, Try.ntmps23
  go_wp2_with fail
  refine (len_any W.heap.size p (some ⟨g, 0, none⟩) rc l _ HS0.out.head).mono ?_
  rintro e w' ⟨rfl, rfl⟩
  go_wp2_with fail
  refine Hdf.out.mono ?_
  rintro e w2 ⟨n, hn, rfl, hown, hk⟩
  have hT := (St.head HS0.out)
  have hh : w2.heap[p]? = some (.cells #[.slice (some ⟨g, 0, none⟩) l.length rc] 56 (0, 0)) := (hk.block p (by simp; omega) (fun e => hgp e.symm)).trans hT.1
  obtain ⟨d0, d1⟩ := cell_of_one hh
  have hfl : (keptM nl l).length ≤ l.length := List.length_filter_le _ _
  have S3 := HS0.out.step (t' := thNetnet W.heap.size p (some ⟨g, 0, none⟩) rc (keptM nl l)) ((hk.weak (T := (thNetnet W.heap.size p (some ⟨g, 0, none⟩) rc l).F) (fun x _ e => .inr ⟨_, rfl, e.symm⟩)).trans (Keeps.set w2 ⟨p, 0, none⟩ (.slice (some ⟨g, 0, none⟩) n rc)) (fun _ h => h) (fun _ _ h => .inl h))
    ⟨by rw [← hn]; exact set_one hh, by rw [← hn]; exact ownsRow_setCell_other hown (fun e => by simp only [Value.ownBlock, Option.some.injEq] at e; exact hgp e) _, fun a ha => by cases ha; exact hgp⟩ (fun x hx => .inl hx)
  have S4 : St W _ (netnetL W.heap.size p (some ⟨g, 0, none⟩) rc (keptM nl l) ++ R) := S3.sub (by
    show List.Sublist (_ :: ((keptM nl l).map (thD W.heap.size) ++ R)) (_ :: (l.map (thD W.heap.size) ++ (_ :: R)))
    exact List.Sublist.cons_cons _ (List.Sublist.append (List.Sublist.map _ List.filter_sublist) (List.sublist_cons_self _ _)))
  have HS4 := Lib.hid S4
  have Hn := Lib.hid hn
  have hnl : n ≤ l.length := by omega
  clear S3 S4 hT hown hk hh hfl Hdf HS0 hn
  go_wp2_with fail
  refine (len_any W.heap.size p (some ⟨g, 0, none⟩) rc (keptM nl l) _ HS4.out.head).mono ?_
  rintro e w' ⟨rfl, rfl⟩
  rw [← Hn.out]
  go_wp2_with fail
  go_ret
  exact ⟨_, _, by rw [← Hn.out]; rfl, HS4.out⟩
end Go.Proofs.Ytcboflabjdiadaa
