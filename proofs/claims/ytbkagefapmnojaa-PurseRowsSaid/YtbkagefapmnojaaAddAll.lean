/- Contracts of Add at whatever list, nil ones too. -/
import Derived.Test.YtbkagefapmnojaaAddR
import Derived.Test.YtbkagefapmnojaaPlainTwo
namespace Go.Proofs.Ytbkagefapmnojaa
open Go.RowKit

/-- The slice's value leads to the list: where it has an element. -/
def ItAt (w : World) (ao : Option Addr) (l : List It) : Prop := 0 < l.length → ∃ b off, ao = some ⟨b, off, none⟩ ∧ b < w.heap.size ∧ ItRow w b off l
theorem ItAt.below {w w' : World} {ao : Option Addr} {l : List It} (h : ItAt w ao l) (k : Below w.heap.size w w') : ItAt w' ao l := fun hp =>
  let ⟨b, off, e, hb, hr⟩ := h hp
  ⟨b, off, e, Nat.lt_of_lt_of_le hb k.size, hr.below hb k⟩
theorem ItAt.nil {w : World} {ao : Option Addr} : ItAt w ao [] := fun h => by simp at h
theorem ItRow.at {w : World} {b off : Nat} {l : List It} (h : ItRow w b off l) (hb : b < w.heap.size) : ItAt w (some ⟨b, off, none⟩) l := fun _ => ⟨b, off, rfl, hb, h⟩
theorem purse_add_none (ao : Option Addr) (cap : Nat) (w : World) :
    Calls Try.prog 19 #[.slice ao 0 cap] w fun e w' => e = .returned (.tuple #[.agg #[.int .i64 0, .int .i64 0, .int .i64 0, .int .i64 0], .bool true]) ∧ Below w.heap.size w w' := by
  go_enter Try.func19, Try.ntmps19
  go_wp2
  refine wp_loop_rounds 1 ?_
  rw [rounds_succ]
  go_wp2
  refine bodyPost_ret (v := .tuple #[.agg #[.int .i64 0, .int .i64 0, .int .i64 0, .int .i64 0], .bool true]) (by simp only [results, Try.results19]; go_simp) rfl ⟨rfl, (by repeat (first | with_reducible exact Below.refl _ _ | with_reducible assumption | with_reducible refine Below.drew ?_ | with_reducible refine below_drawn ?_ | with_reducible refine Below.alloc ?_ (by first | omega | (simp; done) | (simp; omega) | (simp at *; omega)) _ | with_reducible refine Below.setCell ?_ (by first | omega | (simp; done) | (simp; omega) | (simp at *; omega)) _ | with_reducible refine Below.trans ?_ (Below.mono (by assumption) (by first | omega | (simp; done) | (simp; omega) | (simp at *; omega)))))⟩
theorem purse_add (ao : Option Addr) (cap : Nat) (l : List It) (w : World) (hl : l.length ≤ 9223372036854775807) (hr : ItAt w ao l) :
    Calls Try.prog 19 #[.slice ao l.length cap] w fun e w' => e = .returned (.tuple #[.agg #[.int .i64 (outI (addL l)).a, .int .i64 (outI (addL l)).b, .int .i64 (outI (addL l)).c, .int .i64 (outI (addL l)).d], .bool (addL l).isSome]) ∧ Below w.heap.size w w' := by
  by_cases hp : 0 < l.length
  · obtain ⟨b, off, rfl, hb, hrow⟩ := hr hp
    exact purse_add_some b off cap l w hl hrow hb
  · have h0 : l = [] := by cases l with
      | nil => rfl
      | cons x r => simp at hp
    subst h0
    exact purse_add_none ao cap w
theorem satrapyref8_add_none (ao : Option Addr) (cap : Nat) (w : World) :
    Calls Try.prog 20 #[.slice ao 0 cap] w fun e w' => e = .returned (.tuple #[.agg #[.int .i64 0, .int .i64 0, .int .i64 0, .int .i64 0], .bool true]) ∧ Below w.heap.size w w' := by
  go_enter Try.func20, Try.ntmps20
  go_wp2
  refine wp_loop_rounds 1 ?_
  rw [rounds_succ]
  go_wp2
  refine bodyPost_ret (v := .tuple #[.agg #[.int .i64 0, .int .i64 0, .int .i64 0, .int .i64 0], .bool true]) (by simp only [results, Try.results20]; go_simp) rfl ⟨rfl, (by repeat (first | with_reducible exact Below.refl _ _ | with_reducible assumption | with_reducible refine Below.drew ?_ | with_reducible refine below_drawn ?_ | with_reducible refine Below.alloc ?_ (by first | omega | (simp; done) | (simp; omega) | (simp at *; omega)) _ | with_reducible refine Below.setCell ?_ (by first | omega | (simp; done) | (simp; omega) | (simp at *; omega)) _ | with_reducible refine Below.trans ?_ (Below.mono (by assumption) (by first | omega | (simp; done) | (simp; omega) | (simp at *; omega)))))⟩
theorem satrapyref8_add (ao : Option Addr) (cap : Nat) (l : List It) (w : World) (hl : l.length ≤ 9223372036854775807) (hr : ItAt w ao l) :
    Calls Try.prog 20 #[.slice ao l.length cap] w fun e w' => e = .returned (.tuple #[.agg #[.int .i64 (outI (addL l)).a, .int .i64 (outI (addL l)).b, .int .i64 (outI (addL l)).c, .int .i64 (outI (addL l)).d], .bool (addL l).isSome]) ∧ Below w.heap.size w w' := by
  by_cases hp : 0 < l.length
  · obtain ⟨b, off, rfl, hb, hrow⟩ := hr hp
    exact ref_add_some b off cap l w hl hrow hb
  · have h0 : l = [] := by cases l with
      | nil => rfl
      | cons x r => simp at hp
    subst h0
    exact satrapyref8_add_none ao cap w
theorem row_two {w : World} {b : Nat} {i j : It} (h : (w.cell? ⟨b, 0, none⟩ = some (.int .i64 i.a) ∧ w.cell? ⟨b, 1, none⟩ = some (.int .i64 i.b) ∧ w.cell? ⟨b, 2, none⟩ = some (.int .i64 i.c) ∧ w.cell? ⟨b, 3, none⟩ = some (.int .i64 i.d)) ∧ (w.cell? ⟨b, 4, none⟩ = some (.int .i64 j.a) ∧ w.cell? ⟨b, 5, none⟩ = some (.int .i64 j.b) ∧ w.cell? ⟨b, 6, none⟩ = some (.int .i64 j.c) ∧ w.cell? ⟨b, 7, none⟩ = some (.int .i64 j.d))) : ItRow w b 0 [i, j] := by
  obtain ⟨⟨h0, h1, h2, h3⟩, h4, h5, h6, h7⟩ := h
  intro k hk
  rcases (show k = 0 ∨ k = 1 from by simp at hk; omega) with rfl | rfl
  · exact ⟨by simpa using h0, by simpa using h1, by simpa using h2, by simpa using h3⟩
  · exact ⟨by simpa using h4, by simpa using h5, by simpa using h6, by simpa using h7⟩
theorem add_pair_out (i j : It) : outI (addL [i, j]) = selI (isI i && (isI j && isI (addI i j))) (addI i j) ∧ (addL [i, j]).isSome = (isI i && (isI j && isI (addI i j))) := by
  rw [add_two]
  cases (isI i && (isI j && isI (addI i j))) <;> exact ⟨rfl, rfl⟩
/-- Add of two purses in a slice of the call's own. -/
theorem purse_add_pair (b : Nat) (i j : It) (w : World) (hr : ItRow w b 0 [i, j]) (hb : b < w.heap.size) :
    Calls Try.prog 19 #[.slice (some ⟨b, 0, none⟩) 2 2] w fun e w' => e = .returned (.tuple #[.agg #[.int .i64 (outI (addL [i, j])).a, .int .i64 (outI (addL [i, j])).b, .int .i64 (outI (addL [i, j])).c, .int .i64 (outI (addL [i, j])).d], .bool (addL [i, j]).isSome]) ∧ Below w.heap.size w w' :=
  purse_add (some ⟨b, 0, none⟩) 2 [i, j] w (by simp) (hr.at hb)
end Go.Proofs.Ytbkagefapmnojaa
