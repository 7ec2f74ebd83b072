/- The contracts of Give, Late, Twice; of takes where there is nothing. -/
import Derived.Test.YtcboflabjdiadaaNetTake
namespace Go.Proofs.Ytcboflabjdiadaa
open Go.RowKit

/-- A block of the call's own. -/
def thObj (b : Nat) (o : Obj) : Th where
  T w := w.heap[b]? = some o
  F x := x = b
  stay h k hS := (k.block b (lt_of_block h) (hS b rfl)).trans h
  lt h e := e ▸ lt_of_block h
theorem St.obj {W w : World} {L : List Th} (h : St W w L) (o : Obj) : St W (w.alloc o) (thObj w.heap.size o :: L) := h.new (below_allocN w o) _ (heap_new w o) (fun x e => by rw [e]; exact Nat.le_refl _)
theorem St.to_free {W w : World} {L : List Th} {b : Nat} {o : Obj} (h : St W w (thObj b o :: L)) : St W w (thFree b :: L) :=
  h.step (Keeps.refl _ _) _ (lt_of_block h.head) (fun _ hx => .inl hx)
theorem cells_of_obj {w : World} {b : Nat} {cur : Array Value} {t : TypeId} (h : w.heap[b]? = some (.cells cur t (0, 0))) : (∀ j, w.cell? ⟨b, j, none⟩ = cur[j]?) ∧ ∀ j, w.frozen? ⟨b, j, none⟩ = false := by
  refine ⟨fun j => by simp [World.cell?, h], fun j => by simp [World.frozen?, h]⟩
def zU : Value := .agg #[.int .i64 0, .int .i64 0, .slice none 0 0, .bool false]
def zM : Value := .agg #[.int .i64 0, .int .i64 0, .slice none 0 0]
set_option maxRecDepth 20000 in
theorem takes_none (q : Option Addr) (pick : Int) (w : World) (hp : ∀ w', Below w.heap.size w w' → Calls Try.prog 26 #[.pointer q, .int .i64 pick] w' fun e w'' => e = .returned (.tuple #[.int .i64 0, .bool false]) ∧ w' = w'') :
    Calls Try.prog 25 #[.pointer q, .int .i64 pick] w fun e w' => e = .returned (.tuple #[zU, .bool false]) ∧ Below w.heap.size w w' := by
  have Hp := Lib.hid hp
  clear hp
  go_enter Try.func25, Try.ntmps25
  go_wp2_with fail
  refine (Hp.out _ (below_allocN _ _)).mono ?_
  rintro e w1 ⟨rfl, rfl⟩
  go_wp2_with fail
  refine bodyPost_ret (v := .tuple #[zU, .bool false]) (by simp only [results, Try.results25]; go_simp; rfl) rfl ?_
  exact ⟨rfl, (by repeat (first | with_reducible exact Below.refl _ _ | with_reducible assumption | with_reducible refine Below.drew ?_ | with_reducible refine below_drawn ?_ | with_reducible refine Below.alloc ?_ (by first | omega | (simp; done) | (simp; omega) | (simp at *; omega)) _ | with_reducible refine Below.setCell ?_ (by first | omega | (simp; done) | (simp; omega) | (simp at *; omega)) _ | with_reducible refine Below.trans ?_ (Below.mono (by assumption) (by first | omega | (simp; done) | (simp; omega) | (simp at *; omega)))))⟩
set_option maxRecDepth 20000 in
theorem give_none (q : Option Addr) (pick : Int) (w : World) (hp : ∀ w', Below w.heap.size w w' → Calls Try.prog 26 #[.pointer q, .int .i64 pick] w' fun e w'' => e = .returned (.tuple #[.int .i64 0, .bool false]) ∧ w' = w'') :
    Calls Try.prog 13 #[.pointer q, .int .i64 pick] w fun e w' => e = .returned (.tuple #[zM, .bool false]) ∧ Below w.heap.size w w' := by
  have Hp := Lib.hid hp
  clear hp
  go_enter Try.func13, Try.ntmps13
  go_wp2_with fail
  refine (takes_none q pick _ (fun w' hb => Hp.out w' ((below_allocN _ _).trans (hb.mono (by simp))))).mono ?_
  rintro e w1 ⟨rfl, hb⟩
  have hb1 := Lib.hid hb
  have hs := hb.size
  simp only [World.alloc, Array.size_push] at hs
  have hlt : w.heap.size < w1.heap.size := by omega
  have z0 := (hb.cell (p := ⟨w.heap.size, 0, none⟩) (by simp)).trans (by go_simp : _ = some (.int .i64 0))
  have z1 := (hb.cell (p := ⟨w.heap.size, 1, none⟩) (by simp)).trans (by go_simp : _ = some (.int .i64 0))
  have z2 := (hb.cell (p := ⟨w.heap.size, 2, none⟩) (by simp)).trans (by go_simp : _ = some (.slice none 0 0))
  have y0 := (hb.frozen (p := ⟨w.heap.size, 0, none⟩) (by simp)).trans (by go_simp : _ = false)
  have y1 := (hb.frozen (p := ⟨w.heap.size, 1, none⟩) (by simp)).trans (by go_simp : _ = false)
  have y2 := (hb.frozen (p := ⟨w.heap.size, 2, none⟩) (by simp)).trans (by go_simp : _ = false)
  clear hb
  have hw1 := (below_allocN w (.cells #[.int .i64 0, .int .i64 0, .slice none 0 0] 35)).trans (hb1.out.mono (by simp))
  unfold zU
  go_wp2_with fail
  refine bodyPost_ret (v := .tuple #[zM, .bool false]) (by simp only [results, Try.results13]; go_simp; rfl) rfl ?_
  exact ⟨rfl, (by repeat (first | with_reducible exact Below.refl _ _ | with_reducible assumption | with_reducible refine Below.drew ?_ | with_reducible refine below_drawn ?_ | with_reducible refine Below.alloc ?_ (by first | omega | (simp; done) | (simp; omega) | (simp at *; omega)) _ | with_reducible refine Below.setCell ?_ (by first | omega | (simp; done) | (simp; omega) | (simp at *; omega)) _ | with_reducible refine Below.trans ?_ (Below.mono (by assumption) (by first | omega | (simp; done) | (simp; omega) | (simp at *; omega)))))⟩
/-- A message as a value that is handed out. -/
def msG (m : Ms) : Value := .agg #[.int .i64 m.f, .int .i64 m.t, .slice m.ao m.bs.length m.cap]
def GivePost (W : World) (R : List Th) (p : Nat) (l : List Ms) (i : Nat) (hi : i < l.length) (e : Ending) (w' : World) : Prop := ∃ ro' rc', e = .returned (.tuple #[msG l[i], .bool true]) ∧ St W w' (thD W.heap.size l[i] :: (netnetL W.heap.size p ro' rc' (l.eraseIdx i) ++ R))
set_option maxRecDepth 20000 in
set_option maxHeartbeats 4000000 in
theorem give_yes (W w : World) (R : List Th) (p : Nat) (ro : Option Addr) (rc : Nat) (l : List Ms) (pick : Int) (i : Nat) (hi : i < l.length) (hpi : i = pickOf l.length pick) (h : St W w (netnetL W.heap.size p ro rc l ++ R)) (hm : l.length ≤ 1024) :
    Calls Try.prog 13 #[.pointer (some ⟨p, 0, none⟩), .int .i64 pick] w (GivePost W R p l i hi) := by
  have Htk := Lib.hid (takes_yes W _ (thObj w.heap.size (.cells #[.int .i64 0, .int .i64 0, .slice none 0 0] 35 (0, 0)) :: R) p ro rc l pick i hi hpi ((h.obj _).perm List.perm_middle.symm) hm)
  obtain ⟨f, t, ao, cap, bs, sp, hq⟩ : ∃ f t ao cap bs sp, (⟨f, t, ao, cap, bs, sp⟩ : Ms) = l[i] := ⟨_, _, _, _, _, _, rfl⟩
  have Hq := Lib.hid hq
  clear h hq hpi
  unfold GivePost
  go_enter Try.func13, Try.ntmps13
  go_wp2_with fail
  refine Htk.out.mono ?_
  rintro e w1 ⟨ro', rc', rfl, hS⟩
  have S1 := Lib.hid (hS.pull (A := thD W.heap.size l[i] :: netnetL W.heap.size p ro' rc' (l.eraseIdx i)))
  obtain ⟨hc, hf⟩ := cells_of_obj S1.out.head
  have z0 := hc 0
  have z1 := hc 1
  have z2 := hc 2
  have y0 := hf 0
  have y1 := hf 1
  have y2 := hf 2
  have hlt := lt_of_block S1.out.head
  simp only [List.getElem?_toArray, List.getElem?_cons_zero, List.getElem?_cons_succ] at z0 z1 z2
  clear hS hc hf
  rw [← Hq.out]
  unfold msA
  go_wp2_with fail
  refine bodyPost_ret (v := .tuple #[msG ⟨f, t, ao, cap, bs, sp⟩, .bool true]) (by simp only [results, Try.results13]; go_simp; rfl) rfl ?_
  refine ⟨ro', rc', by rw [← Hq.out], ?_⟩
  exact ((((S1.out.to_free.set_free 0 _).set_free 1 _).set_free 2 _).drop).grow (below_allocN _ _)
set_option maxRecDepth 20000 in
theorem late_none (q : Option Addr) (pick : Int) (w : World) (hp : ∀ w', Below w.heap.size w w' → Calls Try.prog 26 #[.pointer q, .int .i64 pick] w' fun e w'' => e = .returned (.tuple #[.int .i64 0, .bool false]) ∧ w' = w'') :
    Calls Try.prog 12 #[.pointer q, .int .i64 pick] w fun e w' => e = .returned (.bool false) ∧ Below w.heap.size w w' := by
  have Hp := Lib.hid hp
  clear hp
  go_enter Try.func12, Try.ntmps12
  go_wp2_with fail
  refine (takes_none q pick _ Hp.out).mono ?_
  rintro e w1 ⟨rfl, hb⟩
  have hs := hb.size
  unfold zU
  go_wp2_with fail
  go_ret
  exact ⟨rfl, hb.alloc hs _⟩
/-- A message lies behind all others once more. -/
def MorePost (W : World) (R : List Th) (p : Nat) (l : List Ms) (m : Ms) (e : Ending) (w' : World) : Prop := ∃ ro' rc' m', e = .returned (.bool true) ∧ ct m' = ct m ∧ St W w' (netnetL W.heap.size p ro' rc' (l ++ [m']) ++ R)
set_option maxRecDepth 20000 in
set_option maxHeartbeats 4000000 in
theorem late_yes (W w : World) (R : List Th) (p : Nat) (ro : Option Addr) (rc : Nat) (l : List Ms) (pick : Int) (i : Nat) (hi : i < l.length) (hpi : i = pickOf l.length pick) (h : St W w (netnetL W.heap.size p ro rc l ++ R)) (hm : l.length ≤ 1024) (hB : l[i].bs.length ≤ 140737488351232) :
    Calls Try.prog 12 #[.pointer (some ⟨p, 0, none⟩), .int .i64 pick] w (MorePost W R p (l.eraseIdx i) l[i]) := by
  have Htk := Lib.hid (takes_yes W _ R p ro rc l pick i hi hpi h hm)
  have hel : (l.eraseIdx i).length = l.length - 1 := by rw [List.length_eraseIdx]; simp only [hi, if_true]
  have hel2 : (l.eraseIdx i).length < 1024 := by omega
  obtain ⟨f, t, ao, cap, bs, sp, hq⟩ : ∃ f t ao cap bs sp, (⟨f, t, ao, cap, bs, sp⟩ : Ms) = l[i] := ⟨_, _, _, _, _, _, rfl⟩
  rw [← hq] at hB
  have Hq := Lib.hid hq
  have Hel := Lib.hid hel2
  simp only at hB
  clear h hq hpi hel hel2
  unfold MorePost
  go_enter Try.func12, Try.ntmps12
  go_wp2_with fail
  refine Htk.out.mono ?_
  rintro e w1 ⟨ro', rc', rfl, hS⟩
  rw [← Hq.out] at hS ⊢
  have S1 := Lib.hid (hS.perm (List.perm_middle (l₁ := netnetL W.heap.size p ro' rc' (l.eraseIdx i)) (l₂ := R)).symm)
  have hO : OwnB w1 W.heap.size ao cap bs := hS.head
  have HO := Lib.hid hO
  clear hS hO
  unfold msA
  go_wp2_with fail
  refine (lays_yes W _ _ p ro' rc' (l.eraseIdx i) f t ao cap bs sp (S1.out.grow (below_allocN _ _)) Hel.out HO.out.none (HO.out.at.below (below_allocN _ _)) hB).mono ?_
  rintro e w2 ⟨ro2, rc2, ao2, cap2, rfl, hS⟩
  go_wp2_with fail
  go_ret
  exact ⟨ro2, rc2, ⟨f, t, ao2, cap2, bs, sp⟩, rfl, (by rw [← Hq.out]; rfl), (hS.pull (A := netnetL W.heap.size p ro2 rc2 (l.eraseIdx i ++ [⟨f, t, ao2, cap2, bs, sp⟩]))).drop⟩
set_option maxRecDepth 20000 in
theorem twice_none (q : Option Addr) (pick : Int) (w : World) (hp : Calls Try.prog 26 #[.pointer q, .int .i64 pick] w fun e w'' => e = .returned (.tuple #[.int .i64 0, .bool false]) ∧ w = w'') :
    Calls Try.prog 17 #[.pointer q, .int .i64 pick] w fun e w' => e = .returned (.bool false) ∧ Below w.heap.size w w' := by
  have Hp := Lib.hid hp
  clear hp
  go_enter Try.func17, Try.ntmps17
  go_wp2_with fail
  refine Hp.out.mono ?_
  rintro e w1 ⟨rfl, rfl⟩
  go_wp2_with fail
  go_ret
  exact ⟨rfl, Below.refl _ _⟩
theorem st_own {W w : World} {R : List Th} {p rc : Nat} {ro : Option Addr} {l : List Ms} (h : St W w (netnetL W.heap.size p ro rc l ++ R)) (i : Nat) (hi : i < l.length) : OwnB w W.heap.size l[i].ao l[i].cap l[i].bs :=
  St.mem (t := thD W.heap.size l[i]) h (List.mem_append.2 (.inl (List.mem_cons_of_mem _ (List.mem_map.2 ⟨_, List.getElem_mem hi, rfl⟩))))
theorem net_cells {base : Nat} {w : World} {p g rc : Nat} {l : List Ms} (hT : (thNetnet base p (some ⟨g, 0, none⟩) rc l).T w) (i : Nat) (hi : i < l.length) :
    w.cell? ⟨g, i * 4, none⟩ = some (.int .i64 l[i].f) ∧ w.cell? ⟨g, i * 4 + 1, none⟩ = some (.int .i64 l[i].t) ∧ w.cell? ⟨g, i * 4 + 2, none⟩ = some (.slice l[i].ao l[i].bs.length l[i].cap) ∧ w.cell? ⟨g, i * 4 + 3, none⟩ = some (.bool l[i].sp) := by
  have hc : ∀ j, j < 4 → w.cell? ⟨g, i * 4 + j, none⟩ = (msV l[i])[j]? := fun j hj => by rw [← msR_get l i hi j hj]; simpa using hT.2.1.cellAt (i * 4 + j) (by omega)
  exact ⟨hc 0 (by omega), hc 1 (by omega), hc 2 (by omega), hc 3 (by omega)⟩
set_option maxRecDepth 20000 in
set_option maxHeartbeats 4000000 in
theorem twice_yes (W w : World) (R : List Th) (p : Nat) (ro : Option Addr) (rc : Nat) (l : List Ms) (pick : Int) (i : Nat) (hi : i < l.length) (hpi : i = pickOf l.length pick) (h : St W w (netnetL W.heap.size p ro rc l ++ R)) (hm : l.length ≤ 1024)
    (hB : l[i].bs.length ≤ 140737488351232) (hf : l.length < 1024) : Calls Try.prog 17 #[.pointer (some ⟨p, 0, none⟩), .int .i64 pick] w (MorePost W R p l l[i]) := by
  have hT : (thNetnet W.heap.size p ro rc l).T w := h.head
  obtain ⟨g, rfl, hg⟩ := row_form hT.2.1 (by omega)
  obtain ⟨c0, f0⟩ := cell_of_one hT.1
  obtain ⟨c1, c2, c3, c4⟩ := net_cells hT i hi
  have hplt := lt_of_block hT.1
  have hO := st_own h i hi
  have Hpk := Lib.hid (picked_yes W.heap.size p (some ⟨g, 0, none⟩) rc l pick w h.head (by omega) hm)
  rw [← hpi] at Hpk
  have H := Lib.hid h
  obtain ⟨f, t, ao, cap, bs, sp, hq⟩ : ∃ f t ao cap bs sp, (⟨f, t, ao, cap, bs, sp⟩ : Ms) = l[i] := ⟨_, _, _, _, _, _, rfl⟩
  rw [← hq] at c1 c2 c3 c4 hO
  simp only at c1 c2 c3 c4 hO
  rw [← hq] at hB
  have HO := Lib.hid hO
  have Hq := Lib.hid hq
  have Hm := Lib.hid hm
  have Hf := Lib.hid hf
  have hli : (i : Int) < l.length := by omega
  clear h hT hq hpi hO hm hf
  unfold MorePost
  go_enter Try.func17, Try.ntmps17
  go_wp2_with fail
  refine Hpk.out.mono ?_
  rintro e w1 ⟨rfl, rfl⟩
  go_wp2_with fail
  refine (lays_yes W _ _ p (some ⟨g, 0, none⟩) rc l f t ao cap bs sp H.out Hf.out HO.out.none HO.out.at hB).mono ?_
  rintro e w2 ⟨ro2, rc2, ao2, cap2, rfl, hS⟩
  go_wp2_with fail
  go_ret
  exact ⟨ro2, rc2, _, rfl, (by rw [← Hq.out]; rfl), hS⟩
theorem twice_full (W w : World) (R : List Th) (p : Nat) (ro : Option Addr) (rc : Nat) (l : List Ms) (pick : Int) (i : Nat) (hi : i < l.length) (hpi : i = pickOf l.length pick) (h : St W w (netnetL W.heap.size p ro rc l ++ R)) (hm : l.length ≤ 1024)
    (hf : 1024 ≤ l.length) : Calls Try.prog 17 #[.pointer (some ⟨p, 0, none⟩), .int .i64 pick] w fun e w' => e = .returned (.bool false) ∧ Below w.heap.size w w' := by
  have hT : (thNetnet W.heap.size p ro rc l).T w := h.head
  obtain ⟨g, rfl, hg⟩ := row_form hT.2.1 (by omega)
  obtain ⟨c0, f0⟩ := cell_of_one hT.1
  obtain ⟨c1, c2, c3, c4⟩ := net_cells hT i hi
  have hplt := lt_of_block hT.1
  have hO := st_own h i hi
  have Hpk := Lib.hid (picked_yes W.heap.size p (some ⟨g, 0, none⟩) rc l pick w h.head (by omega) hm)
  rw [← hpi] at Hpk
  have H := Lib.hid h
  obtain ⟨f, t, ao, cap, bs, sp, hq⟩ : ∃ f t ao cap bs sp, (⟨f, t, ao, cap, bs, sp⟩ : Ms) = l[i] := ⟨_, _, _, _, _, _, rfl⟩
  rw [← hq] at c1 c2 c3 c4 hO
  simp only at c1 c2 c3 c4 hO
  have HO := Lib.hid hO
  have Hq := Lib.hid hq
  have Hm := Lib.hid hm
  have Hf := Lib.hid hf
  have hli : (i : Int) < l.length := by omega
  clear h hT hq hpi hO hm hf
  go_enter Try.func17, Try.ntmps17
  go_wp2_with fail
  refine Hpk.out.mono ?_
  rintro e w1 ⟨rfl, rfl⟩
  go_wp2_with fail
  refine (lays_no W _ R p (some ⟨g, 0, none⟩) rc l f t ao cap bs sp H.out Hf.out).mono ?_
  rintro e w2 ⟨rfl, hb⟩
  go_wp2_with fail
  go_ret
  exact ⟨rfl, hb⟩
end Go.Proofs.Ytcboflabjdiadaa
