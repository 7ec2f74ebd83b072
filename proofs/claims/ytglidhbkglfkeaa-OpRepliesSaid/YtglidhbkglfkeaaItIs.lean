/- Whether a purse may be: the contracts of both. -/
import Derived.Test.YtglidhbkglfkeaaKit
import Derived.Test.YtglidhbkglfkeaaPlain
namespace Go.Proofs.Ytglidhbkglfkeaa
open Go.RowKit
set_option maxHeartbeats 1000000 in
theorem purse_is (i : It) (w : World) :
    Calls Try.prog 58 #[.agg #[.int .i64 i.a, .int .i64 i.b, .int .i64 i.c, .int .i64 i.d]] w fun e w' => e = .returned (.bool (isI i)) ∧ Below w.heap.size w w' := by
  have i0 : ∀ w, (Instr.index 43 (.agg #[.int .i64 i.a, .int .i64 i.b, .int .i64 i.c, .int .i64 i.d]) (.int .i64 0)).run Try.prog w = .ok (.int .i64 i.a) w := fun _ => by kernel_rfl
  have i1 : ∀ w, (Instr.index 43 (.agg #[.int .i64 i.a, .int .i64 i.b, .int .i64 i.c, .int .i64 i.d]) (.int .i64 1)).run Try.prog w = .ok (.int .i64 i.b) w := fun _ => by kernel_rfl
  have i2 : ∀ w, (Instr.index 43 (.agg #[.int .i64 i.a, .int .i64 i.b, .int .i64 i.c, .int .i64 i.d]) (.int .i64 2)).run Try.prog w = .ok (.int .i64 i.c) w := fun _ => by kernel_rfl
  have i3 : ∀ w, (Instr.index 43 (.agg #[.int .i64 i.a, .int .i64 i.b, .int .i64 i.c, .int .i64 i.d]) (.int .i64 3)).run Try.prog w = .ok (.int .i64 i.d) w := fun _ => by kernel_rfl
  go_enter Try.func58, Try.ntmps58
  go_wp2_with fail
  (refine wp_loop_rounds 5 ?_; (repeat any_goals (rw [rounds_succ]; go_wp2_with fail)))
  all_goals (go_ret; refine ⟨?_, (by repeat (first | with_reducible exact Below.refl _ _ | with_reducible assumption | with_reducible refine Below.drew ?_ | with_reducible refine below_drawn ?_ | with_reducible refine Below.alloc ?_ (by first | omega | (simp; done) | (simp; omega) | (simp at *; omega)) _ | with_reducible refine Below.setCell ?_ (by first | omega | (simp; done) | (simp; omega) | (simp at *; omega)) _ | with_reducible refine Below.trans ?_ (Below.mono (by assumption) (by first | omega | (simp; done) | (simp; omega) | (simp at *; omega)))))⟩; first | (rw [(isI_false i).2 (by omega)]; rfl) | (rw [(isI_iff i).2 (by omega)]; rfl))
set_option maxHeartbeats 1000000 in
theorem satrapyref8_is (i : It) (w : World) :
    Calls Try.prog 59 #[.agg #[.int .i64 i.a, .int .i64 i.b, .int .i64 i.c, .int .i64 i.d]] w fun e w' => e = .returned (.bool (isI i)) ∧ Below w.heap.size w w' := by
  have i0 : ∀ w, (Instr.index 43 (.agg #[.int .i64 i.a, .int .i64 i.b, .int .i64 i.c, .int .i64 i.d]) (.int .i64 0)).run Try.prog w = .ok (.int .i64 i.a) w := fun _ => by kernel_rfl
  have i1 : ∀ w, (Instr.index 43 (.agg #[.int .i64 i.a, .int .i64 i.b, .int .i64 i.c, .int .i64 i.d]) (.int .i64 1)).run Try.prog w = .ok (.int .i64 i.b) w := fun _ => by kernel_rfl
  have i2 : ∀ w, (Instr.index 43 (.agg #[.int .i64 i.a, .int .i64 i.b, .int .i64 i.c, .int .i64 i.d]) (.int .i64 2)).run Try.prog w = .ok (.int .i64 i.c) w := fun _ => by kernel_rfl
  have i3 : ∀ w, (Instr.index 43 (.agg #[.int .i64 i.a, .int .i64 i.b, .int .i64 i.c, .int .i64 i.d]) (.int .i64 3)).run Try.prog w = .ok (.int .i64 i.d) w := fun _ => by kernel_rfl
  go_enter Try.func59, Try.ntmps59
  go_wp2_with fail
  (refine wp_loop_rounds 5 ?_; (repeat any_goals (rw [rounds_succ]; go_wp2_with fail)))
  all_goals (go_ret; refine ⟨?_, (by repeat (first | with_reducible exact Below.refl _ _ | with_reducible assumption | with_reducible refine Below.drew ?_ | with_reducible refine below_drawn ?_ | with_reducible refine Below.alloc ?_ (by first | omega | (simp; done) | (simp; omega) | (simp at *; omega)) _ | with_reducible refine Below.setCell ?_ (by first | omega | (simp; done) | (simp; omega) | (simp at *; omega)) _ | with_reducible refine Below.trans ?_ (Below.mono (by assumption) (by first | omega | (simp; done) | (simp; omega) | (simp at *; omega)))))⟩; first | (rw [(isI_false i).2 (by omega)]; rfl) | (rw [(isI_iff i).2 (by omega)]; rfl))
end Go.Proofs.Ytglidhbkglfkeaa
