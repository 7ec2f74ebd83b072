/- The contracts of takes, Give, Late, Twice. -/
import Derived.Test.YtcboflabjdiadaaNetDel
namespace Go.Proofs.Ytcboflabjdiadaa
open Go.RowKit

/-- A message as a value. -/
def msA (m : Ms) : Value := .agg #[.int .i64 m.f, .int .i64 m.t, .slice m.ao m.bs.length m.cap, .bool m.sp]
def TakePost (W : World) (R : List Th) (p : Nat) (l : List Ms) (i : Nat) (hi : i < l.length) (e : Ending) (w' : World) : Prop := ∃ ro' rc', e = .returned (.tuple #[msA l[i], .bool true]) ∧ St W w' (thD W.heap.size l[i] :: (netnetL W.heap.size p ro' rc' (l.eraseIdx i) ++ R))
theorem row_form {w : World} {base n cap size : Nat} {e : TypeId} {ro : Option Addr} {xs : List Value} (h : w.ownsRow base e size (.slice ro n cap) n xs) (hn : 0 < n) : ∃ g, ro = some ⟨g, 0, none⟩ ∧ g < w.heap.size := by
  rcases h.2 with ⟨hv, h0⟩ | ⟨g, c, cur, hv, hb, hh, -⟩
  · omega
  · simp only [Value.slice.injEq] at hv
    exact ⟨g, hv.1, lt_of_block hh⟩
/-- A block of the call's own of which nothing is said. -/
def thFree (b : Nat) : Th where
  T w := b < w.heap.size
  F x := x = b
  stay h k _ := Nat.lt_of_lt_of_le h k.size
  lt h e := e ▸ h
theorem St.free {W w : World} {L : List Th} (h : St W w L) (o : Obj) : St W (w.alloc o) (thFree w.heap.size :: L) := h.new (below_allocN w o) _ (by simp [thFree]) (fun x e => by rw [e]; exact Nat.le_refl _)
theorem St.set_free {W w : World} {L : List Th} {b : Nat} (h : St W w (thFree b :: L)) (o : Nat) (v : Value) : St W (w.setCell ⟨b, o, none⟩ v) (thFree b :: L) :=
  h.step (Keeps.set w ⟨b, o, none⟩ v) _ (Nat.lt_of_lt_of_le h.head (Keeps.set w ⟨b, o, none⟩ v).size) (fun _ hx => .inl hx)
theorem erase_perm {l : List Ms} {i : Nat} (hi : i < l.length) : l.Perm (l[i] :: l.eraseIdx i) := by
  have e : l = l.take i ++ l[i] :: l.drop (i + 1) := by rw [← List.drop_eq_getElem_cons hi, List.take_append_drop]
  rw [List.eraseIdx_eq_take_drop_succ]
  exact (List.Perm.of_eq e).trans List.perm_middle
theorem St.took {W w w3 : World} {R : List Th} {p g rc n : Nat} {l : List Ms} {i : Nat} (h : St W w (netnetL W.heap.size p (some ⟨g, 0, none⟩) rc l ++ R)) (hi : i < l.length) (k : Keeps w w3 (fun x => x = g)) (hr : w3.ownsRow W.heap.size 59 4 (.slice (some ⟨g, 0, none⟩) n rc) n (msR (l.eraseIdx i))) (hn : n = (l.eraseIdx i).length) :
    St W (w3.setCell ⟨p, 0, none⟩ (.slice (some ⟨g, 0, none⟩) n rc)) (thD W.heap.size l[i] :: (netnetL W.heap.size p (some ⟨g, 0, none⟩) rc (l.eraseIdx i) ++ R)) := by
  subst hn
  have hT : (thNetnet W.heap.size p (some ⟨g, 0, none⟩) rc l).T w := h.head
  have hgp : g ≠ p := hT.2.2 _ rfl
  have hp := lt_of_block hT.1
  have hh : w3.heap[p]? = some (.cells #[.slice (some ⟨g, 0, none⟩) l.length rc] 56 (0, 0)) := (k.block p hp (fun e => hgp e.symm)).trans hT.1
  have S := h.step (t' := thNetnet W.heap.size p (some ⟨g, 0, none⟩) rc (l.eraseIdx i)) ((k.weak (T := (thNetnet W.heap.size p (some ⟨g, 0, none⟩) rc l).F) (fun x _ e => .inr ⟨_, rfl, e.symm⟩)).trans (Keeps.set w3 ⟨p, 0, none⟩ (.slice (some ⟨g, 0, none⟩) (l.eraseIdx i).length rc)) (fun _ h => h) (fun _ _ h => .inl h))
    ⟨set_one hh, ownsRow_setCell_other hr (fun e => by simp only [Value.ownBlock, Option.some.injEq] at e; exact hgp e) _, fun a ha => by cases ha; exact hgp⟩ (fun x hx => .inl hx)
  refine S.perm ?_
  show List.Perm (_ :: (l.map (thD W.heap.size) ++ R)) (_ :: _ :: ((l.eraseIdx i).map (thD W.heap.size) ++ R))
  exact (List.Perm.cons _ (((erase_perm hi).map (thD W.heap.size)).append_right R)).trans (List.Perm.swap _ _ _)
set_option maxRecDepth 20000 in
set_option maxHeartbeats 4000000 in
theorem takes_yes (W w : World) (R : List Th) (p : Nat) (ro : Option Addr) (rc : Nat) (l : List Ms) (pick : Int) (i : Nat) (hi : i < l.length) (hpi : i = pickOf l.length pick) (h : St W w (netnetL W.heap.size p ro rc l ++ R)) (hm : l.length ≤ 1024) :
    Calls Try.prog 25 #[.pointer (some ⟨p, 0, none⟩), .int .i64 pick] w (TakePost W R p l i hi) := by
  have hT : (thNetnet W.heap.size p ro rc l).T w := h.head
  obtain ⟨g, rfl, hg⟩ := row_form hT.2.1 (by omega)
  have hgp : g ≠ p := hT.2.2 _ rfl
  obtain ⟨c0, f0⟩ := cell_of_one hT.1
  have hplt := lt_of_block hT.1
  have H := Lib.hid h
  have HT := Lib.hid hT
  have hc : ∀ j, j < 4 → w.cell? ⟨g, i * 4 + j, none⟩ = (msV l[i])[j]? := fun j hj => by rw [← msR_get l i hi j hj]; simpa using hT.2.1.cellAt (i * 4 + j) (by omega)
  obtain ⟨f, t, ao, cap, bs, sp, hq⟩ : ∃ f t ao cap bs sp, (⟨f, t, ao, cap, bs, sp⟩ : Ms) = l[i] := ⟨_, _, _, _, _, _, rfl⟩
  rw [← hq] at hc
  have c1 := hc 0 (by omega)
  have c2 := hc 1 (by omega)
  have c3 := hc 2 (by omega)
  have c4 := hc 3 (by omega)
  simp only [msV, List.getElem?_cons_zero, List.getElem?_cons_succ, Nat.add_zero] at c1 c2 c3 c4
  have Hq := Lib.hid hq
  have hli : (i : Int) < l.length := by omega
  have Hp := Lib.hid hpi
  obtain ⟨n, hn⟩ : ∃ n, n = l.length := ⟨_, rfl⟩
  have Hn := Lib.hid hn
  have Hpk := Lib.hid (fun w' (hb : Below w.heap.size w w') => picked_yes W.heap.size p (some ⟨g, 0, none⟩) rc l pick w' (H.out.grow hb).head (by omega) hm)
  have Hdel := Lib.hid (fun w' (hb : Below w.heap.size w w') => delete_any W.heap.size g rc l i w' (H.out.grow hb).head.2.1 hi hm)
  rw [← hpi] at Hpk
  clear h hT hc hq hpi
  unfold TakePost
  go_enter Try.func25, Try.ntmps25
  go_wp2_with fail
  refine (Hpk.out _ (below_allocN _ _)).mono ?_
  rintro e w1 ⟨rfl, rfl⟩
  go_wp2_with fail
  refine (Hdel.out _ (by repeat (first | with_reducible exact Below.refl _ _ | with_reducible assumption | with_reducible refine Below.drew ?_ | with_reducible refine below_drawn ?_ | with_reducible refine Below.alloc ?_ (by first | omega | (simp; done) | (simp; omega) | (simp at *; omega)) _ | with_reducible refine Below.setCell ?_ (by first | omega | (simp; done) | (simp; omega) | (simp at *; omega)) _ | with_reducible refine Below.trans ?_ (Below.mono (by assumption) (by first | omega | (simp; done) | (simp; omega) | (simp at *; omega)))))).mono ?_
  rintro e w2 ⟨rfl, hrow, hk⟩
  have hel : (l.eraseIdx i).length = l.length - 1 := by rw [List.length_eraseIdx]; simp only [hi, if_true]
  have S0 := ((H.out.free (.cells #[.int .i64 0, .int .i64 0, .slice none 0 0, .bool false] 59)).perm List.perm_middle.symm : St W _ (netnetL W.heap.size p (some ⟨g, 0, none⟩) rc l ++ (thFree w.heap.size :: R)))
  have S1 := Lib.hid (St.took (S0.grow (by repeat (first | with_reducible exact Below.refl _ _ | with_reducible assumption | with_reducible refine Below.drew ?_ | with_reducible refine below_drawn ?_ | with_reducible refine Below.alloc ?_ (by first | omega | (simp; done) | (simp; omega) | (simp at *; omega)) _ | with_reducible refine Below.setCell ?_ (by first | omega | (simp; done) | (simp; omega) | (simp at *; omega)) _ | with_reducible refine Below.trans ?_ (Below.mono (by assumption) (by first | omega | (simp; done) | (simp; omega) | (simp at *; omega)))))) hi hk hrow hel.symm)
  clear S0
  have q0 := (hk.cell (p := ⟨w.heap.size + 1, 0, none⟩) (by simp) (by simp; omega)).trans (by go_simp : _ = some (.int .i64 f))
  have q1 := (hk.cell (p := ⟨w.heap.size + 1, 1, none⟩) (by simp) (by simp; omega)).trans (by go_simp : _ = some (.int .i64 t))
  have q2 := (hk.cell (p := ⟨w.heap.size + 1, 2, none⟩) (by simp) (by simp; omega)).trans (by go_simp : _ = some (.slice ao bs.length cap))
  have q3 := (hk.cell (p := ⟨w.heap.size + 1, 3, none⟩) (by simp) (by simp; omega)).trans (by go_simp : _ = some (.bool sp))
  have z0 := (hk.cell (p := ⟨w.heap.size, 0, none⟩) (by simp; omega) (by simp; omega)).trans (by go_simp : _ = some (.int .i64 0))
  have y0 := (hk.frozen (p := ⟨w.heap.size, 0, none⟩) (by simp; omega) (by simp; omega)).trans (by go_simp : _ = false)
  have z1 := (hk.cell (p := ⟨w.heap.size, 1, none⟩) (by simp; omega) (by simp; omega)).trans (by go_simp : _ = some (.int .i64 0))
  have y1 := (hk.frozen (p := ⟨w.heap.size, 1, none⟩) (by simp; omega) (by simp; omega)).trans (by go_simp : _ = false)
  have z2 := (hk.cell (p := ⟨w.heap.size, 2, none⟩) (by simp; omega) (by simp; omega)).trans (by go_simp : _ = some (.slice none 0 0))
  have y2 := (hk.frozen (p := ⟨w.heap.size, 2, none⟩) (by simp; omega) (by simp; omega)).trans (by go_simp : _ = false)
  have z3 := (hk.cell (p := ⟨w.heap.size, 3, none⟩) (by simp; omega) (by simp; omega)).trans (by go_simp : _ = some (.bool false))
  have y3 := (hk.frozen (p := ⟨w.heap.size, 3, none⟩) (by simp; omega) (by simp; omega)).trans (by go_simp : _ = false)
  have d0 := (hk.cell (p := ⟨p, 0, none⟩) (by simp; omega) (by simpa using hgp.symm)).trans (by go_simp : _ = some (.slice (some ⟨g, 0, none⟩) l.length rc))
  have d1 := (hk.frozen (p := ⟨p, 0, none⟩) (by simp; omega) (by simpa using hgp.symm)).trans (by go_simp : _ = false)
  have hs2 := hk.size
  simp only [World.alloc, Array.size_push] at hs2
  clear hk hrow
  go_wp2_with fail
  have S2 := Lib.hid ((((((S1.out.pull (A := thD W.heap.size l[i] :: netnetL W.heap.size p (some ⟨g, 0, none⟩) rc (l.eraseIdx i))).set_free 0 (.int .i64 f)).set_free 1 (.int .i64 t)).set_free 2 (.slice ao bs.length cap)).set_free 3 (.bool sp)).drop)
  refine bodyPost_ret (v := .tuple #[.agg #[.int .i64 f, .int .i64 t, .slice ao bs.length cap, .bool sp], .bool true]) (by simp only [results, Try.results25]; go_simp) rfl ?_
  exact ⟨some ⟨g, 0, none⟩, rc, by rw [← Hq.out]; rfl, S2.out⟩
end Go.Proofs.Ytcboflabjdiadaa
