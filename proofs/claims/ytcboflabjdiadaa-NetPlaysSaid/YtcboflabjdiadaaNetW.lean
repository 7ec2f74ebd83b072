/- Contracts of New, Len, picked. -/
import Derived.Test.YtcboflabjdiadaaNet
import Derived.Test.YtcboflabjdiadaaStep
namespace Go.Proofs.Ytcboflabjdiadaa
open Go.RowKit

theorem cell_of_one {w : World} {b : Nat} {u : Value} {t : TypeId} (h : w.heap[b]? = some (.cells #[u] t (0, 0))) : w.cell? ⟨b, 0, none⟩ = some u ∧ w.frozen? ⟨b, 0, none⟩ = false := by
  simp [World.cell?, World.frozen?, h]
theorem set_one {w : World} {b : Nat} {u x : Value} {t : TypeId} (h : w.heap[b]? = some (.cells #[u] t (0, 0))) : (w.setCell ⟨b, 0, none⟩ x).heap[b]? = some (.cells #[x] t (0, 0)) := by
  simp [World.setCell, Array.getElem?_modify, h]
theorem below_allocN (w : World) (o : Obj) : Below w.heap.size w (w.alloc o) := (Below.refl _ _).alloc (Nat.le_refl _) _
theorem new_any (w : World) : Calls Try.prog 10 #[] w fun e w' => e = .returned (.pointer (some ⟨w.heap.size, 0, none⟩)) ∧ w' = w.alloc (.cells #[.slice none 0 0] 56) := by
  go_enter Try.func10, Try.ntmps10
  go_wp2_with fail
  go_ret
  exact ⟨rfl, rfl⟩
theorem St.newNet {W w : World} {R : List Th} (h : St W w R) : St W (w.alloc (.cells #[.slice none 0 0] 56)) (netnetL W.heap.size w.heap.size none 0 [] ++ R) :=
  h.new (below_allocN _ _) (thNetnet W.heap.size w.heap.size none 0 []) ⟨heap_new w _, World.ownsRow_nil _ _ _ _, fun a e => by cases e⟩ (fun x hx => by
    rcases hx with rfl | ⟨a, e, -⟩
    · exact Nat.le_refl _
    · cases e)
theorem len_any (base p : Nat) (ro : Option Addr) (rc : Nat) (l : List Ms) (w : World) (h : (thNetnet base p ro rc l).T w) :
    Calls Try.prog 15 #[.pointer (some ⟨p, 0, none⟩)] w fun e w' => e = .returned (.int .i64 l.length) ∧ w = w' := by
  obtain ⟨c0, f0⟩ := cell_of_one h.1
  clear h
  go_enter Try.func15, Try.ntmps15
  go_wp2_with fail
  go_ret
  exact ⟨rfl, rfl⟩
theorem len_nil (w : World) : Calls Try.prog 15 #[.pointer none] w fun e w' => e = .returned (.int .i64 0) ∧ w = w' := by
  go_enter Try.func15, Try.ntmps15
  go_wp2_with fail
  go_ret
  exact ⟨rfl, rfl⟩
/-- The place that is picked. -/
def pickOf (n : Nat) (pick : Int) : Nat := (max 0 pick).toNat % n
theorem pickOf_lt {n : Nat} (h : 0 < n) (pick : Int) : pickOf n pick < n := Nat.mod_lt _ h
theorem picked_no (base p : Nat) (ro : Option Addr) (rc : Nat) (pick : Int) (w : World) (h : (thNetnet base p ro rc []).T w) :
    Calls Try.prog 26 #[.pointer (some ⟨p, 0, none⟩), .int .i64 pick] w fun e w' => e = .returned (.tuple #[.int .i64 0, .bool false]) ∧ w = w' := by
  have Hl := Lib.hid (len_any base p ro rc [] w h)
  clear h
  go_enter Try.func26, Try.ntmps26
  go_wp2_with fail
  refine Hl.out.mono ?_
  rintro e w' ⟨rfl, rfl⟩
  go_wp2_with fail
  go_ret2
  exact ⟨rfl, rfl⟩
theorem picked_nil (pick : Int) (w : World) :
    Calls Try.prog 26 #[.pointer none, .int .i64 pick] w fun e w' => e = .returned (.tuple #[.int .i64 0, .bool false]) ∧ w = w' := by
  go_enter Try.func26, Try.ntmps26
  go_wp2_with fail
  refine (len_nil _).mono ?_
  rintro e w' ⟨rfl, rfl⟩
  go_wp2_with fail
  go_ret2
  exact ⟨rfl, rfl⟩
theorem picked_yes (base p : Nat) (ro : Option Addr) (rc : Nat) (l : List Ms) (pick : Int) (w : World) (h : (thNetnet base p ro rc l).T w) (hl : 0 < l.length) (hm : l.length ≤ 1024) :
    Calls Try.prog 26 #[.pointer (some ⟨p, 0, none⟩), .int .i64 pick] w fun e w' => e = .returned (.tuple #[.int .i64 (pickOf l.length pick : Nat), .bool true]) ∧ w = w' := by
  have Hl := Lib.hid (len_any base p ro rc l w h)
  obtain ⟨c0, f0⟩ := cell_of_one h.1
  obtain ⟨n, hn⟩ : ∃ n, n = l.length := ⟨_, rfl⟩
  rw [← hn] at Hl c0 hl hm ⊢
  have hn0 : ¬ (n : Int) = 0 := by omega
  have hne : ((n : Int) == 0) = false := by rw [beq_eq_false_iff_ne]; exact hn0
  obtain ⟨m, hm0⟩ : ∃ m : Nat, m = (max 0 pick).toNat := ⟨_, rfl⟩
  have hmax : max (0 : Int) pick = m := by rw [hm0]; omega
  have hp : pickOf n pick = m % n := by unfold pickOf; rw [← hm0]
  have ht : ((m : Int).tmod (n : Int)) = (m % n : Nat) := by rw [Int.tmod_eq_emod_of_nonneg (by omega)]; rfl
  have Hp := Lib.hid hp
  clear h hn hm0 hp
  go_enter Try.func26, Try.ntmps26
  go_wp2_with fail
  refine Hl.out.mono ?_
  rintro e w' ⟨rfl, rfl⟩
  go_wp2_with fail
  go_ret2
  rw [Hp.out]
  exact ⟨rfl, rfl⟩
end Go.Proofs.Ytcboflabjdiadaa
