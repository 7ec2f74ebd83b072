/- The document's Spoil. -/
import Derived.Test.YtcboflabjdiadaaRNw
namespace Go.Proofs.Ytcboflabjdiadaa
open Go.RowKit

theorem msR_setJ {l : List Ms} {i j : Nat} (hi : i < l.length) (hj : j < 4) {v : Value} {m : Ms} (hm : msV m = (msV l[i]).set j v) : msR (l.set i m) = (msR l).set (i * 4 + j) v := by
  have e : l = l.take i ++ l[i] :: l.drop (i + 1) := by rw [← List.drop_eq_getElem_cons hi, List.take_append_drop]
  have e1 : l.set i m = l.take i ++ m :: l.drop (i + 1) := by
    rw [List.set_eq_take_append_cons_drop]; simp only [hi, if_true]
  have hl : (msR (l.take i)).length = i * 4 := by rw [msR_length, List.length_take, Nat.min_eq_left (by omega)]
  have hR : msR l = msR (l.take i) ++ (msV l[i] ++ msR (l.drop (i + 1))) := (congrArg msR e).trans (by rw [msR_append]; rfl)
  rw [e1, msR_append, hR, List.set_append_right _ _ (by omega), hl, Nat.add_sub_cancel_left, List.set_append_left _ _ (by simp [msV]; omega), ← hm]
  simp [msR]
/-- A cell of the document's row is turned. -/
theorem St.refCell {W w : World} {L : List Th} {p g rc : Nat} {l : List Ms} (h : St W w (thNetref W.heap.size p (some ⟨g, 0, none⟩) rc l :: L)) (i : Nat) (hi : i < l.length) (j : Nat) (hj : j < 4) (v : Value) (m' : Ms) (he : msV m' = (msV l[i]).set j v) :
    St W (w.setCell ⟨g, i * 4 + j, none⟩ v) (thNetref W.heap.size p (some ⟨g, 0, none⟩) rc (l.set i m') :: L) := by
  have hT : (thNetref W.heap.size p (some ⟨g, 0, none⟩) rc l).T w := h.head
  have hgp : g ≠ p := hT.2.2 _ rfl
  have hlen : (l.set i m').length = l.length := by simp
  have hst := (World.ownsRow.stored hT.2.1 (i * 4 + j) v).1
  refine h.step (t' := thNetref W.heap.size p (some ⟨g, 0, none⟩) rc (l.set i m')) ((Keeps.set w ⟨g, i * 4 + j, none⟩ v).weak (T := (thNetref W.heap.size p (some ⟨g, 0, none⟩) rc l).F) (fun _ _ e => .inr ⟨_, rfl, e.symm⟩)) ?_ (fun x hx => .inl hx)
  refine ⟨?_, ?_, hT.2.2⟩
  · rw [hlen, Below.heap_setCell _ _ _ _ (fun e => hgp e.symm)]; exact hT.1
  · rw [hlen, msR_setJ hi hj he]; simpa using hst
/-- The document's message gets bytes of its own, and is marked. -/
theorem St.rspoil {W w w9 : World} {R : List Th} {p g rc cc : Nat} {co : Option Addr} {l : List Ms} {i : Nat} (hi : i < l.length) (h : St W w (netrefL W.heap.size p (some ⟨g, 0, none⟩) rc l ++ R)) (hb : Below w.heap.size (w.setCell ⟨g, i * 4 + 3, none⟩ (.bool true)) w9) (ho : OwnB w9 w.heap.size co cc l[i].bs) :
    St W (((w9.setCell ⟨g, i * 4 + 0, none⟩ (.int .i64 l[i].f)).setCell ⟨g, i * 4 + 1, none⟩ (.int .i64 l[i].t)).setCell ⟨g, i * 4 + 2, none⟩ (.slice co l[i].bs.length cc)) (thD W.heap.size ⟨l[i].f, l[i].t, co, cc, l[i].bs, true⟩ :: (thNetref W.heap.size p (some ⟨g, 0, none⟩) rc (l.set i ⟨l[i].f, l[i].t, co, cc, l[i].bs, true⟩) :: ((l.eraseIdx i).map (thD W.heap.size) ++ R))) := by
  have hp1 : List.Perm (netrefL W.heap.size p (some ⟨g, 0, none⟩) rc l ++ R) (thD W.heap.size l[i] :: (thNetref W.heap.size p (some ⟨g, 0, none⟩) rc l :: ((l.eraseIdx i).map (thD W.heap.size) ++ R))) := by
    show List.Perm (_ :: (l.map (thD W.heap.size) ++ R)) (_ :: _ :: ((l.eraseIdx i).map (thD W.heap.size) ++ R))
    exact (List.Perm.cons _ (((erase_perm hi).map (thD W.heap.size)).append_right R)).trans (List.Perm.swap _ _ _)
  have S1 := (h.perm hp1).drop
  have S2 := S1.refCell i hi 3 (by decide) (.bool true) ⟨l[i].f, l[i].t, l[i].ao, l[i].cap, l[i].bs, true⟩ rfl
  have hz : (w.setCell ⟨g, i * 4 + 3, none⟩ (.bool true)).heap.size = w.heap.size := by simp [World.setCell]
  have S3 := S2.new (by rw [hz]; exact hb) (thD W.heap.size ⟨l[i].f, l[i].t, co, cc, l[i].bs, true⟩) (own_weak ho h.b.size) (fun x ⟨a, ha, hx⟩ => by rw [hz]; exact hx ▸ (own_lt ho a.block (by rw [show co = some a from ha]; rfl)).2)
  have hlen : i < (l.set i ⟨l[i].f, l[i].t, l[i].ao, l[i].cap, l[i].bs, true⟩).length := by simpa using hi
  have S4 := (S3.pull (A := [_])).refCell i hlen 0 (by decide) (.int .i64 l[i].f) ⟨l[i].f, l[i].t, l[i].ao, l[i].cap, l[i].bs, true⟩ (by rw [List.getElem_set_self]; rfl)
  rw [List.set_set] at S4
  have S5 := S4.refCell i hlen 1 (by decide) (.int .i64 l[i].t) ⟨l[i].f, l[i].t, l[i].ao, l[i].cap, l[i].bs, true⟩ (by rw [List.getElem_set_self]; rfl)
  rw [List.set_set] at S5
  have S6 := S5.refCell i hlen 2 (by decide) (.slice co l[i].bs.length cc) ⟨l[i].f, l[i].t, co, cc, l[i].bs, true⟩ (by rw [List.getElem_set_self]; rfl)
  rw [List.set_set] at S6
  exact S6.pull (A := [_])
/-- A byte is turned; all is put together again. -/
theorem St.rspoilt {W w : World} {R : List Th} {p g rc cc bb : Nat} {l : List Ms} {i k : Nat} (hi : i < l.length) {f t : Int} {bs : List UInt8} (x : UInt8)
    (h : St W w (thD W.heap.size ⟨f, t, some ⟨bb, 0, none⟩, cc, bs, true⟩ :: (thNetref W.heap.size p (some ⟨g, 0, none⟩) rc (l.set i ⟨f, t, some ⟨bb, 0, none⟩, cc, bs, true⟩) :: ((l.eraseIdx i).map (thD W.heap.size) ++ R)))) :
    St W (w.setCell ⟨bb, k, none⟩ (.int .u8 (x.toNat : Int))) (netrefL W.heap.size p (some ⟨g, 0, none⟩) rc (l.set i ⟨f, t, some ⟨bb, 0, none⟩, cc, bs.set k x, true⟩) ++ R) := by
  have hO : OwnB w W.heap.size (some ⟨bb, 0, none⟩) cc bs := h.head
  have S2 := h.step (t' := thD W.heap.size ⟨f, t, some ⟨bb, 0, none⟩, cc, bs.set k x, true⟩) ((Keeps.set w ⟨bb, k, none⟩ (.int .u8 (x.toNat : Int))).weak (T := (thD W.heap.size ⟨f, t, some ⟨bb, 0, none⟩, cc, bs, true⟩).F) (fun _ _ e => ⟨_, rfl, e.symm⟩)) (own_stored hO k x) (fun x hx => .inl hx)
  have S3 := S2.pull (A := [_])
  have hT : (thNetref W.heap.size p (some ⟨g, 0, none⟩) rc (l.set i ⟨f, t, some ⟨bb, 0, none⟩, cc, bs, true⟩)).T (w.setCell ⟨bb, k, none⟩ (.int .u8 (x.toNat : Int))) := S3.head
  have hR : msR (l.set i ⟨f, t, some ⟨bb, 0, none⟩, cc, bs.set k x, true⟩) = msR (l.set i ⟨f, t, some ⟨bb, 0, none⟩, cc, bs, true⟩) := by
    have hlen : i < (l.set i (⟨f, t, some ⟨bb, 0, none⟩, cc, bs, true⟩ : Ms)).length := by simpa using hi
    have := msR_setJ (l := l.set i ⟨f, t, some ⟨bb, 0, none⟩, cc, bs, true⟩) hlen (j := 0) (by decide) (v := .int .i64 f) (m := ⟨f, t, some ⟨bb, 0, none⟩, cc, bs.set k x, true⟩) (by rw [List.getElem_set_self]; simp [msV])
    rw [List.set_set] at this
    have h2 := msR_setJ (l := l.set i ⟨f, t, some ⟨bb, 0, none⟩, cc, bs, true⟩) hlen (j := 0) (by decide) (v := .int .i64 f) (m := ⟨f, t, some ⟨bb, 0, none⟩, cc, bs, true⟩) (by rw [List.getElem_set_self]; rfl)
    rw [List.set_set] at h2
    rw [this, ← h2]
  have S4 := S3.step (t' := thNetref W.heap.size p (some ⟨g, 0, none⟩) rc (l.set i ⟨f, t, some ⟨bb, 0, none⟩, cc, bs.set k x, true⟩)) (Keeps.refl _ _) (by
    refine ⟨?_, ?_, hT.2.2⟩
    · have := hT.1; simpa using this
    · rw [hR]; have := hT.2.1; simpa using this) (fun x hx => .inl hx)
  refine S4.perm ?_
  have hi2 : i < (l.set i (⟨f, t, some ⟨bb, 0, none⟩, cc, bs.set k x, true⟩ : Ms)).length := by simpa using hi
  have hp2 := erase_perm hi2
  rw [List.getElem_set_self, List.eraseIdx_set_eq] at hp2
  show List.Perm (_ :: _ :: ((l.eraseIdx i).map (thD W.heap.size) ++ R)) (_ :: ((l.set i _).map (thD W.heap.size) ++ R))
  exact List.Perm.cons _ ((hp2.map (thD W.heap.size)).append_right R).symm
end Go.Proofs.Ytcboflabjdiadaa
