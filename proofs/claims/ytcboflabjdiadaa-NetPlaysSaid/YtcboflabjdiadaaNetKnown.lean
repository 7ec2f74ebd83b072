/- The contracts of message and known. -/
import Derived.Test.YtcboflabjdiadaaNetC
namespace Go.Proofs.Ytcboflabjdiadaa
open Go.RowKit

set_option maxRecDepth 20000 in
theorem message_any (f t : Int) (ao : Option Addr) (ca : Nat) (a : List UInt8) (f' t' : Int) (bo : Option Addr) (cb : Nat) (b : List UInt8) (w : World) (ha : BAt w ao a) (hb : BAt w bo b) (hm : a.length ≤ 9223372036854775807) (hmb : b.length ≤ 9223372036854775807) (r : Bool) (hr : r = (f == f' && t == t' && a == b)) :
    Calls Try.prog 14 #[.agg #[.int .i64 f, .int .i64 t, .slice ao a.length ca], .agg #[.int .i64 f', .int .i64 t', .slice bo b.length cb]] w fun e w' => e = .returned (.bool r) ∧ Below w.heap.size w w' := by
  have HA := Lib.hid ha
  have HB := Lib.hid hb
  obtain ⟨s, hs⟩ : ∃ s, s = (a == b) := ⟨_, rfl⟩
  have HS := Lib.hid hs
  clear ha hb
  by_cases hf : f = f'
  · by_cases ht : t = t'
    · subst hf ht
      have hrs : r = s := by rw [hr, hs]; simp
      subst hrs
      clear hr hs
      go_enter Try.func14, Try.ntmps14
      go_wp2_with fail
      refine (same_any ao bo ca cb a b _ (HA.out.below (((Below.refl w.heap.size w).alloc (Nat.le_refl _) _).alloc (by simp) _)) (HB.out.below (((Below.refl w.heap.size w).alloc (Nat.le_refl _) _).alloc (by simp) _)) hm hmb).mono ?_
      rintro e w1 ⟨rfl, hb1⟩
      rw [← HS.out]
      have hb2 : Below w.heap.size w w1 := (((Below.refl w.heap.size w).alloc (Nat.le_refl _) _).alloc (by simp) _).trans (hb1.mono (by simp; omega))
      go_wp2_with fail
      go_ret
      exact ⟨rfl, hb2⟩
    · have hrs : r = false := by rw [hr]; simp [ht]
      have htb : (t == t') = false := by simpa using ht
      subst hf hrs
      clear hr hs
      go_enter Try.func14, Try.ntmps14
      go_wp2_with fail
      go_ret
      exact ⟨rfl, (by repeat (first | with_reducible exact Below.refl _ _ | with_reducible assumption | with_reducible refine Below.drew ?_ | with_reducible refine below_drawn ?_ | with_reducible refine Below.alloc ?_ (by first | omega | (simp; done) | (simp; omega) | (simp at *; omega)) _ | with_reducible refine Below.setCell ?_ (by first | omega | (simp; done) | (simp; omega) | (simp at *; omega)) _ | with_reducible refine Below.trans ?_ (Below.mono (by assumption) (by first | omega | (simp; done) | (simp; omega) | (simp at *; omega)))))⟩
  · have hrs : r = false := by rw [hr]; simp [hf]
    have htb : (f == f') = false := by simpa using hf
    subst hrs
    clear hr hs
    go_enter Try.func14, Try.ntmps14
    go_wp2_with fail
    go_ret
    exact ⟨rfl, (by repeat (first | with_reducible exact Below.refl _ _ | with_reducible assumption | with_reducible refine Below.drew ?_ | with_reducible refine below_drawn ?_ | with_reducible refine Below.alloc ?_ (by first | omega | (simp; done) | (simp; omega) | (simp at *; omega)) _ | with_reducible refine Below.setCell ?_ (by first | omega | (simp; done) | (simp; omega) | (simp at *; omega)) _ | with_reducible refine Below.trans ?_ (Below.mono (by assumption) (by first | omega | (simp; done) | (simp; omega) | (simp at *; omega)))))⟩
theorem bat_obj {w : World} {b : Nat} {l : List UInt8} {t : TypeId} {fr : Nat × Nat} {cur : Array Value} (h : w.heap[b]? = some (.cells cur t fr)) (hc : cur = (bytV l).toArray) : BAt w (some ⟨b, 0, none⟩) l := by
  subst hc
  refine fun _ => ⟨b, 0, rfl, lt_of_block h, fun i hi => ?_⟩
  rw [Nat.zero_add]
  simp only [World.cell?, h]
  simpa using bytV_get l i hi
theorem const_bytes1 (w : World) (o : Obj) (C : Array Value) (n c : Nat) : (convert 33 33 (.slice (some ⟨w.heap.size + 1, 0, none⟩) n c)).run Try.prog ((w.alloc o).alloc (.cells C 5)) = .ok (.slice (some ⟨w.heap.size + 1, 0, none⟩) n c) ((w.alloc o).alloc (.cells C 5 (C.size, C.size + 1))) := by
  have := const_bytes (w.alloc o) C n c
  rwa [show (w.alloc o).heap.size = w.heap.size + 1 from by simp] at this
theorem NetAt.objN {W w : World} {p : Nat} {C : List Ct} {R : List Th} (h : NetAt W w p C R) (o : Obj) (n : Nat) (hn : n = w.heap.size) : NetAt W (w.alloc o) p C (thObj n o :: R) := by
  subst hn; exact h.obj o
/-- The cells of messages that are handed over. -/
def msG3 (M : List Ms) : List Value := M.flatMap fun m => [.int .i64 m.f, .int .i64 m.t, .slice m.ao m.bs.length m.cap]
theorem msG3_get : ∀ (l : List Ms) (i : Nat) (h : i < l.length) (j : Nat), j < 3 → (msG3 l)[i * 3 + j]? = [Value.int .i64 l[i].f, .int .i64 l[i].t, .slice l[i].ao l[i].bs.length l[i].cap][j]?
  | m :: r, 0, _, j, hj => by
    show ([Value.int .i64 m.f, .int .i64 m.t, .slice m.ao m.bs.length m.cap] ++ msG3 r)[0 * 3 + j]? = _
    rw [Nat.zero_mul, Nat.zero_add, List.getElem?_append_left (by simp; omega)]
    rfl
  | m :: r, i + 1, h, j, hj => by
    show ([Value.int .i64 m.f, .int .i64 m.t, .slice m.ao m.bs.length m.cap] ++ msG3 r)[(i + 1) * 3 + j]? = _
    rw [List.getElem?_append_right (by simp; omega)]
    have := msG3_get r i (by simpa using h) j hj
    rw [show (i + 1) * 3 + j - [Value.int .i64 m.f, .int .i64 m.t, .slice m.ao m.bs.length m.cap].length = i * 3 + j from by simp; omega, this]
    rfl
theorem msAt_obj {w : World} {b : Nat} {cur : Array Value} {t : TypeId} (h : w.heap[b]? = some (.cells cur t (0, 0))) (M : List Ms) (hc : cur.toList = msG3 M) (hM : ∀ m ∈ M, (m.ao = none → m.bs.length = 0 ∧ m.cap = 0) ∧ BAt w m.ao m.bs ∧ m.bs.length ≤ 140737488351232 ∧ m.sp = false) : MsAt w (some ⟨b, 0, none⟩) M := by
  refine fun _ => ⟨b, 0, rfl, lt_of_block h, fun i hi => ?_⟩
  have hcell : ∀ j, j < 3 → w.cell? ⟨b, 0 + i * 3 + j, none⟩ = [Value.int .i64 M[i].f, .int .i64 M[i].t, .slice M[i].ao M[i].bs.length M[i].cap][j]? := fun j hj => by
    rw [(cells_of_obj h).1, Nat.zero_add, ← Array.getElem?_toList, hc, msG3_get M i hi j hj]
  obtain ⟨h1, h2, h3, h4⟩ := hM _ (List.getElem_mem hi)
  exact ⟨hcell 0 (by omega), hcell 1 (by omega), hcell 2 (by omega), h1, h2, h3, h4⟩
set_option maxRecDepth 20000 in
set_option maxHeartbeats 2000000 in
theorem known_any (w : World) : Calls Try.prog 16 #[] w fun e w' => e = .returned (.bool true) ∧ Below w.heap.size w w' := by
  have hcv := const_bytes
  go_enter Try.func16, Try.ntmps16
  go_wp2_with fail
  refine (new_any w).mono ?_
  rintro e w1 ⟨rfl, hw1⟩
  have N1 := NetAt.new w
  rw [← hw1] at N1
  have hs1 : w1.heap.size = w.heap.size + 1 := by rw [hw1]; simp
  have hcv1 := const_bytes1
  have HN1 := Lib.hid N1
  have Hs1 := Lib.hid hs1
  have hs1l : w.heap.size < w1.heap.size := by omega
  clear hw1 N1 hs1
  go_wp2_with fail
  have N2 := ((HN1.out.objN (.cells #[.int .u8 97] 5 (1, 2)) _ rfl).objN (.cells #[.int .u8 98] 5 (1, 2)) (w1.heap.size + 1) (by simp)).objN (.cells #[.int .i64 0, .int .i64 1, .slice (some ⟨w1.heap.size, 0, none⟩) 1 1, .int .i64 0, .int .i64 2, .slice (some ⟨w1.heap.size + 1, 0, none⟩) 1 1] 35) (w1.heap.size + 1 + 1) (by simp)
  refine (send_ct N2 (some ⟨w1.heap.size + 1 + 1, 0, none⟩) 2 [⟨0, 1, some ⟨w1.heap.size, 0, none⟩, 1, [97], false⟩, ⟨0, 2, some ⟨w1.heap.size + 1, 0, none⟩, 1, [98], false⟩] (fun w' X hS => ?_) (by simp) 2 rfl 2 (by decide)).mono ?_
  · have t1 : (thObj (w1.heap.size + 1 + 1) _).T w' := hS.mem (List.mem_append.2 (.inr (List.mem_cons_self ..)))
    have t2 : (thObj (w1.heap.size + 1) _).T w' := hS.mem (List.mem_append.2 (.inr (List.mem_cons_of_mem _ (List.mem_cons_self ..))))
    have t3 : (thObj w1.heap.size _).T w' := hS.mem (List.mem_append.2 (.inr (List.mem_cons_of_mem _ (List.mem_cons_of_mem _ (List.mem_cons_self ..)))))
    refine msAt_obj t1 _ rfl fun m hm => ?_
    simp only [List.mem_cons, List.not_mem_nil, or_false] at hm
    rcases hm with rfl | rfl
    · exact ⟨(fun h => by cases h), bat_obj t3 rfl, by simp, rfl⟩
    · exact ⟨(fun h => by cases h), bat_obj t2 rfl, by simp, rfl⟩
  rintro e w2 ⟨rfl, hN⟩
  have HN2 : Hid (NetAt w w2 w.heap.size [(0, 1, [97], false), (0, 2, [98], false)] []) := hN.drop.drop.drop
  have hs2 := hN.b.size
  have hcv2 := const_bytes w2
  clear hN N2
  go_wp2_with fail
  refine (late_ct HN2.out 0 0 (by decide) (by decide)).mono ?_
  rintro e w3 ⟨rfl, hN⟩
  have HN3 : Hid (NetAt w w3 w.heap.size [(0, 2, [98], false), (0, 1, [97], false)] []) := hN
  clear hN HN2
  go_wp2_with fail
  refine (give_ct HN3.out 0 0 (by decide) (by decide)).mono ?_
  rintro e w4 ⟨ao, cap, rfl, -, hN⟩
  have HN4 : Hid (NetAt w w4 w.heap.size [(0, 1, [97], false)] [thOwn w.heap.size ao cap [98]]) := hN
  have hO : OwnB w4 w.heap.size ao cap [98] := HN4.out.mem (List.mem_cons_self ..)
  have HO := Lib.hid hO
  have hb4 := hN.b
  have hs4 := hb4.size
  have Hb4 := Lib.hid hb4
  simp only [List.getElem_cons_zero, List.length_cons, List.length_nil]
  clear hN HN3 hO hb4
  go_wp2_with fail
  have hbl : BAt ((w4.alloc (.cells #[.int .i64 0, .int .i64 2, .slice ao 1 cap] 35)).alloc (.cells #[.int .u8 98] 5 (1, 2))) (some ⟨w4.heap.size + 1, 0, none⟩) [98] := bat_lit (w4.alloc (.cells #[.int .i64 0, .int .i64 2, .slice ao 1 cap] 35)) _ (by simp) [98] 5 (1, 2)
  refine (same_any ao (some ⟨w4.heap.size + 1, 0, none⟩) cap 1 [98] [98] _ (HO.out.at.below (((Below.refl w4.heap.size w4).alloc (Nat.le_refl _) _).alloc (by simp) _)) hbl (by decide) (by decide)).mono ?_
  rintro e w5 ⟨rfl, hb⟩
  have hb5 : Below w4.heap.size w4 w5 := (((Below.refl w4.heap.size w4).alloc (Nat.le_refl _) _).alloc (by simp) _).trans (hb.mono (by simp; omega))
  have HN5 := Lib.hid (HN4.out.grow hb5)
  have hb6 := Hb4.out.trans (hb5.mono hs4)
  have HB6 := Lib.hid hb6
  clear hb hb5 hb6 hbl
  rw [beq_self_eq_true]
  go_wp2_with fail
  refine (len_ct HN5.out).mono ?_
  rintro e w6 ⟨rfl, rfl⟩
  simp only [List.length_cons, List.length_nil]
  go_wp2_with fail
  go_ret
  exact ⟨rfl, HB6.out⟩
end Go.Proofs.Ytcboflabjdiadaa
