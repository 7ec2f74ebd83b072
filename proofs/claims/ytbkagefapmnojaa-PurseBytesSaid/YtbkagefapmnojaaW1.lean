/- Contracts of package purse's Is, Less, One, Sub and of the reference's: what each call gives back, and that of the old memory nothing turns. -/
import Derived.Test.YtbkagefapmnojaaOwn
import Derived.Test.YtbkagefapmnojaaPlain
namespace Go.Proofs.Ytbkagefapmnojaa
open Go.RowKit

theorem intInfo : ((Try.prog.info? 3).isSome) = true := by kernel_rfl
theorem eql_items (i j : It) (w : World) : (Op.equalIn 10000 23 (.agg #[.int .i64 i.a, .int .i64 i.b, .int .i64 i.c, .int .i64 i.d]) (.agg #[.int .i64 j.a, .int .i64 j.b, .int .i64 j.c, .int .i64 j.d])).run Try.prog w = .ok ((i.a == j.a) && ((i.b == j.b) && ((i.c == j.c) && (i.d == j.d)))) w := by
  obtain ⟨inf, hinf⟩ := Option.isSome_iff_exists.1 intInfo
  have hc : Try.prog.cellsOf 3 = 1 := by kernel_rfl
  have hp : Try.prog.plainKey 3 = true := by kernel_rfl
  have p : ∀ (xs : Array Value) (k : Nat) (v : Value), xs[k]? = some v → (part 3 xs k).run Try.prog w = .ok v w := fun xs k v h => run_part_plain w hp h
  have e : ∀ a b : Int, (Op.equalIn 9999 3 (.int .i64 a) (.int .i64 b)).run Try.prog w = .ok (a == b) w := fun a b => run_equalIn_int w 9998 _ _ _ a b Try.underlying3
  have pi : ∀ (i : It), (part 3 #[.int .i64 i.a, .int .i64 i.b, .int .i64 i.c, .int .i64 i.d] 0).run Try.prog w = .ok (.int .i64 i.a) w ∧ (part 3 #[.int .i64 i.a, .int .i64 i.b, .int .i64 i.c, .int .i64 i.d] 1).run Try.prog w = .ok (.int .i64 i.b) w ∧ (part 3 #[.int .i64 i.a, .int .i64 i.b, .int .i64 i.c, .int .i64 i.d] 2).run Try.prog w = .ok (.int .i64 i.c) w ∧ (part 3 #[.int .i64 i.a, .int .i64 i.b, .int .i64 i.c, .int .i64 i.d] 3).run Try.prog w = .ok (.int .i64 i.d) w :=
    fun i => ⟨p _ _ _ rfl, p _ _ _ rfl, p _ _ _ rfl, p _ _ _ rfl⟩
  obtain ⟨a0, a1, a2, a3⟩ := pi i
  obtain ⟨b0, b1, b2, b3⟩ := pi j
  rw [run_equalIn_array w 9999 _ _ Try.underlying23 hinf, hc, show List.range 4 = [0, 1, 2, 3] from rfl]
  cases h0 : (i.a == j.a) <;> cases h1 : (i.b == j.b) <;> cases h2 : (i.c == j.c) <;> cases h3 : (i.d == j.d) <;> simp [Op.eqItems, Sem.run_bind, a0, a1, a2, a3, b0, b1, b2, b3, e, h0, h1, h2, h3, -beq_iff_eq, -beq_eq_false_iff_ne]

set_option maxHeartbeats 1000000 in
theorem purse_is (i : It) (w : World) :
    Calls Try.prog 18 #[.agg #[.int .i64 i.a, .int .i64 i.b, .int .i64 i.c, .int .i64 i.d]] w fun e w' => e = .returned (.bool (isI i)) ∧ Below w.heap.size w w' := by
  have i0 : ∀ w, (Instr.index 23 (.agg #[.int .i64 i.a, .int .i64 i.b, .int .i64 i.c, .int .i64 i.d]) (.int .i64 0)).run Try.prog w = .ok (.int .i64 i.a) w := fun _ => by kernel_rfl
  have i1 : ∀ w, (Instr.index 23 (.agg #[.int .i64 i.a, .int .i64 i.b, .int .i64 i.c, .int .i64 i.d]) (.int .i64 1)).run Try.prog w = .ok (.int .i64 i.b) w := fun _ => by kernel_rfl
  have i2 : ∀ w, (Instr.index 23 (.agg #[.int .i64 i.a, .int .i64 i.b, .int .i64 i.c, .int .i64 i.d]) (.int .i64 2)).run Try.prog w = .ok (.int .i64 i.c) w := fun _ => by kernel_rfl
  have i3 : ∀ w, (Instr.index 23 (.agg #[.int .i64 i.a, .int .i64 i.b, .int .i64 i.c, .int .i64 i.d]) (.int .i64 3)).run Try.prog w = .ok (.int .i64 i.d) w := fun _ => by kernel_rfl
  go_enter Try.func18, Try.ntmps18
  go_wp2_with fail
  (refine wp_loop_rounds 5 ?_; (repeat any_goals (rw [rounds_succ]; go_wp2_with fail)))
  all_goals (go_ret; refine ⟨?_, (by repeat (first | with_reducible exact Below.refl _ _ | with_reducible assumption | with_reducible refine Below.drew ?_ | with_reducible refine below_drawn ?_ | with_reducible refine Below.alloc ?_ (by first | omega | (simp; done) | (simp; omega) | (simp at *; omega)) _ | with_reducible refine Below.setCell ?_ (by first | omega | (simp; done) | (simp; omega) | (simp at *; omega)) _ | with_reducible refine Below.trans ?_ (Below.mono (by assumption) (by first | omega | (simp; done) | (simp; omega) | (simp at *; omega)))))⟩; first | (rw [(isI_false i).2 (by omega)]; rfl) | (rw [(isI_iff i).2 (by omega)]; rfl))

set_option maxHeartbeats 1000000 in
theorem purse_less (i j : It) (w : World) :
    Calls Try.prog 12 #[.agg #[.int .i64 i.a, .int .i64 i.b, .int .i64 i.c, .int .i64 i.d], .agg #[.int .i64 j.a, .int .i64 j.b, .int .i64 j.c, .int .i64 j.d]] w fun e w' => e = .returned (.bool (lessI i j)) ∧ Below w.heap.size w w' := by
  have i0 : ∀ w, (Instr.index 23 (.agg #[.int .i64 j.a, .int .i64 j.b, .int .i64 j.c, .int .i64 j.d]) (.int .i64 0)).run Try.prog w = .ok (.int .i64 j.a) w := fun _ => by kernel_rfl
  have i1 : ∀ w, (Instr.index 23 (.agg #[.int .i64 j.a, .int .i64 j.b, .int .i64 j.c, .int .i64 j.d]) (.int .i64 1)).run Try.prog w = .ok (.int .i64 j.b) w := fun _ => by kernel_rfl
  have i2 : ∀ w, (Instr.index 23 (.agg #[.int .i64 j.a, .int .i64 j.b, .int .i64 j.c, .int .i64 j.d]) (.int .i64 2)).run Try.prog w = .ok (.int .i64 j.c) w := fun _ => by kernel_rfl
  have i3 : ∀ w, (Instr.index 23 (.agg #[.int .i64 j.a, .int .i64 j.b, .int .i64 j.c, .int .i64 j.d]) (.int .i64 3)).run Try.prog w = .ok (.int .i64 j.d) w := fun _ => by kernel_rfl
  go_enter Try.func12, Try.ntmps12
  go_wp2_with fail
  (refine wp_loop_rounds 5 ?_; (repeat any_goals (rw [rounds_succ]; go_wp2_with fail; (try (go_quiet (fail); go_wp2_with fail)))))
  all_goals (go_ret; refine ⟨?_, (by repeat (first | with_reducible exact Below.refl _ _ | with_reducible assumption | with_reducible refine Below.drew ?_ | with_reducible refine below_drawn ?_ | with_reducible refine Below.alloc ?_ (by first | omega | (simp; done) | (simp; omega) | (simp at *; omega)) _ | with_reducible refine Below.setCell ?_ (by first | omega | (simp; done) | (simp; omega) | (simp at *; omega)) _ | with_reducible refine Below.trans ?_ (Below.mono (by assumption) (by first | omega | (simp; done) | (simp; omega) | (simp at *; omega)))))⟩; first | (rw [(lessI_false i j).2 (by omega)]; rfl) | (rw [(lessI_iff i j).2 (by omega)]; rfl))

set_option maxHeartbeats 1000000 in
theorem purse_one (item n : Int) (w : World) :
    Calls Try.prog 16 #[.int .i64 item, .int .i64 n] w fun e w' => e = .returned (.tuple #[.agg #[.int .i64 (selI (oneOk item n) (oneI item n)).a, .int .i64 (selI (oneOk item n) (oneI item n)).b, .int .i64 (selI (oneOk item n) (oneI item n)).c, .int .i64 (selI (oneOk item n) (oneI item n)).d], .bool (oneOk item n)]) ∧ Below w.heap.size w w' := by
  cases h : oneOk item n
  · rw [oneOk_false] at h
    simp only [selI, zeroI]
    go_enter Try.func16, Try.ntmps16
    go_wp2_with fail
    all_goals first | (exfalso; omega) | skip
    all_goals refine bodyPost_ret (v := .tuple #[.agg #[.int .i64 0, .int .i64 0, .int .i64 0, .int .i64 0], .bool false]) (by simp [results, Try.results16, go_sem, *]) rfl ⟨rfl, (by repeat (first | with_reducible exact Below.refl _ _ | with_reducible assumption | with_reducible refine Below.drew ?_ | with_reducible refine below_drawn ?_ | with_reducible refine Below.alloc ?_ (by first | omega | (simp; done) | (simp; omega) | (simp at *; omega)) _ | with_reducible refine Below.setCell ?_ (by first | omega | (simp; done) | (simp; omega) | (simp at *; omega)) _ | with_reducible refine Below.trans ?_ (Below.mono (by assumption) (by first | omega | (simp; done) | (simp; omega) | (simp at *; omega)))))⟩
  · rw [oneOk_iff] at h
    obtain ⟨h, h1, h2⟩ := h
    rcases h with rfl | rfl | rfl | rfl
    all_goals
      simp only [selI, oneI, if_true]
      go_enter Try.func16, Try.ntmps16
      go_wp2_with fail
      refine bodyPost_ret (v := .tuple #[.agg #[.int .i64 _, .int .i64 _, .int .i64 _, .int .i64 _], .bool true]) (by simp [results, Try.results16, go_sem, *]; exact ⟨rfl, rfl, rfl, rfl⟩) rfl ⟨by simp, (by repeat (first | with_reducible exact Below.refl _ _ | with_reducible assumption | with_reducible refine Below.drew ?_ | with_reducible refine below_drawn ?_ | with_reducible refine Below.alloc ?_ (by first | omega | (simp; done) | (simp; omega) | (simp at *; omega)) _ | with_reducible refine Below.setCell ?_ (by first | omega | (simp; done) | (simp; omega) | (simp at *; omega)) _ | with_reducible refine Below.trans ?_ (Below.mono (by assumption) (by first | omega | (simp; done) | (simp; omega) | (simp at *; omega)))))⟩

set_option maxHeartbeats 1000000 in
theorem satrapyref8_is (i : It) (w : World) :
    Calls Try.prog 15 #[.agg #[.int .i64 i.a, .int .i64 i.b, .int .i64 i.c, .int .i64 i.d]] w fun e w' => e = .returned (.bool (isI i)) ∧ Below w.heap.size w w' := by
  have i0 : ∀ w, (Instr.index 23 (.agg #[.int .i64 i.a, .int .i64 i.b, .int .i64 i.c, .int .i64 i.d]) (.int .i64 0)).run Try.prog w = .ok (.int .i64 i.a) w := fun _ => by kernel_rfl
  have i1 : ∀ w, (Instr.index 23 (.agg #[.int .i64 i.a, .int .i64 i.b, .int .i64 i.c, .int .i64 i.d]) (.int .i64 1)).run Try.prog w = .ok (.int .i64 i.b) w := fun _ => by kernel_rfl
  have i2 : ∀ w, (Instr.index 23 (.agg #[.int .i64 i.a, .int .i64 i.b, .int .i64 i.c, .int .i64 i.d]) (.int .i64 2)).run Try.prog w = .ok (.int .i64 i.c) w := fun _ => by kernel_rfl
  have i3 : ∀ w, (Instr.index 23 (.agg #[.int .i64 i.a, .int .i64 i.b, .int .i64 i.c, .int .i64 i.d]) (.int .i64 3)).run Try.prog w = .ok (.int .i64 i.d) w := fun _ => by kernel_rfl
  go_enter Try.func15, Try.ntmps15
  go_wp2_with fail
  (refine wp_loop_rounds 5 ?_; (repeat any_goals (rw [rounds_succ]; go_wp2_with fail)))
  all_goals (go_ret; refine ⟨?_, (by repeat (first | with_reducible exact Below.refl _ _ | with_reducible assumption | with_reducible refine Below.drew ?_ | with_reducible refine below_drawn ?_ | with_reducible refine Below.alloc ?_ (by first | omega | (simp; done) | (simp; omega) | (simp at *; omega)) _ | with_reducible refine Below.setCell ?_ (by first | omega | (simp; done) | (simp; omega) | (simp at *; omega)) _ | with_reducible refine Below.trans ?_ (Below.mono (by assumption) (by first | omega | (simp; done) | (simp; omega) | (simp at *; omega)))))⟩; first | (rw [(isI_false i).2 (by omega)]; rfl) | (rw [(isI_iff i).2 (by omega)]; rfl))

set_option maxHeartbeats 1000000 in
theorem satrapyref8_less (i j : It) (w : World) :
    Calls Try.prog 13 #[.agg #[.int .i64 i.a, .int .i64 i.b, .int .i64 i.c, .int .i64 i.d], .agg #[.int .i64 j.a, .int .i64 j.b, .int .i64 j.c, .int .i64 j.d]] w fun e w' => e = .returned (.bool (lessI i j)) ∧ Below w.heap.size w w' := by
  have i0 : ∀ w, (Instr.index 23 (.agg #[.int .i64 j.a, .int .i64 j.b, .int .i64 j.c, .int .i64 j.d]) (.int .i64 0)).run Try.prog w = .ok (.int .i64 j.a) w := fun _ => by kernel_rfl
  have i1 : ∀ w, (Instr.index 23 (.agg #[.int .i64 j.a, .int .i64 j.b, .int .i64 j.c, .int .i64 j.d]) (.int .i64 1)).run Try.prog w = .ok (.int .i64 j.b) w := fun _ => by kernel_rfl
  have i2 : ∀ w, (Instr.index 23 (.agg #[.int .i64 j.a, .int .i64 j.b, .int .i64 j.c, .int .i64 j.d]) (.int .i64 2)).run Try.prog w = .ok (.int .i64 j.c) w := fun _ => by kernel_rfl
  have i3 : ∀ w, (Instr.index 23 (.agg #[.int .i64 j.a, .int .i64 j.b, .int .i64 j.c, .int .i64 j.d]) (.int .i64 3)).run Try.prog w = .ok (.int .i64 j.d) w := fun _ => by kernel_rfl
  go_enter Try.func13, Try.ntmps13
  go_wp2_with fail
  (refine wp_loop_rounds 5 ?_; (repeat any_goals (rw [rounds_succ]; go_wp2_with fail; (try (go_quiet (fail); go_wp2_with fail)))))
  all_goals (go_ret; refine ⟨?_, (by repeat (first | with_reducible exact Below.refl _ _ | with_reducible assumption | with_reducible refine Below.drew ?_ | with_reducible refine below_drawn ?_ | with_reducible refine Below.alloc ?_ (by first | omega | (simp; done) | (simp; omega) | (simp at *; omega)) _ | with_reducible refine Below.setCell ?_ (by first | omega | (simp; done) | (simp; omega) | (simp at *; omega)) _ | with_reducible refine Below.trans ?_ (Below.mono (by assumption) (by first | omega | (simp; done) | (simp; omega) | (simp at *; omega)))))⟩; first | (rw [(lessI_false i j).2 (by omega)]; rfl) | (rw [(lessI_iff i j).2 (by omega)]; rfl))

set_option maxHeartbeats 1000000 in
theorem satrapyref8_one (item n : Int) (w : World) :
    Calls Try.prog 17 #[.int .i64 item, .int .i64 n] w fun e w' => e = .returned (.tuple #[.agg #[.int .i64 (selI (oneOk item n) (oneI item n)).a, .int .i64 (selI (oneOk item n) (oneI item n)).b, .int .i64 (selI (oneOk item n) (oneI item n)).c, .int .i64 (selI (oneOk item n) (oneI item n)).d], .bool (oneOk item n)]) ∧ Below w.heap.size w w' := by
  cases h : oneOk item n
  · rw [oneOk_false] at h
    simp only [selI, zeroI]
    go_enter Try.func17, Try.ntmps17
    go_wp2_with fail
    all_goals first | (exfalso; omega) | skip
    all_goals refine bodyPost_ret (v := .tuple #[.agg #[.int .i64 0, .int .i64 0, .int .i64 0, .int .i64 0], .bool false]) (by simp [results, Try.results17, go_sem, *]) rfl ⟨rfl, (by repeat (first | with_reducible exact Below.refl _ _ | with_reducible assumption | with_reducible refine Below.drew ?_ | with_reducible refine below_drawn ?_ | with_reducible refine Below.alloc ?_ (by first | omega | (simp; done) | (simp; omega) | (simp at *; omega)) _ | with_reducible refine Below.setCell ?_ (by first | omega | (simp; done) | (simp; omega) | (simp at *; omega)) _ | with_reducible refine Below.trans ?_ (Below.mono (by assumption) (by first | omega | (simp; done) | (simp; omega) | (simp at *; omega)))))⟩
  · rw [oneOk_iff] at h
    obtain ⟨h, h1, h2⟩ := h
    rcases h with rfl | rfl | rfl | rfl
    all_goals
      simp only [selI, oneI, if_true]
      go_enter Try.func17, Try.ntmps17
      go_wp2_with fail
      refine bodyPost_ret (v := .tuple #[.agg #[.int .i64 _, .int .i64 _, .int .i64 _, .int .i64 _], .bool true]) (by simp [results, Try.results17, go_sem, *]; exact ⟨rfl, rfl, rfl, rfl⟩) rfl ⟨by simp, (by repeat (first | with_reducible exact Below.refl _ _ | with_reducible assumption | with_reducible refine Below.drew ?_ | with_reducible refine below_drawn ?_ | with_reducible refine Below.alloc ?_ (by first | omega | (simp; done) | (simp; omega) | (simp at *; omega)) _ | with_reducible refine Below.setCell ?_ (by first | omega | (simp; done) | (simp; omega) | (simp at *; omega)) _ | with_reducible refine Below.trans ?_ (Below.mono (by assumption) (by first | omega | (simp; done) | (simp; omega) | (simp at *; omega)))))⟩
end Go.Proofs.Ytbkagefapmnojaa
