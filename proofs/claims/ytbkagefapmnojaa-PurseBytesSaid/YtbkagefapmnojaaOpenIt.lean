/- A purse that came in, opened. -/
import Derived.Test.YtbkagefapmnojaaW1
import Derived.Test.YtbkagefapmnojaaOpen
namespace Go.Proofs.Ytbkagefapmnojaa
open Go.ChangeShapes Go.WideShapes Go.Deep Go.Joins
theorem okWide_array {P : Program} {w : World} {r : Reach} {base : Nat} {t e : TypeId} {n : Nat} {v : Value} (ht : P.underlying t = some (.array n e)) (h : Value.okWide P w r base t v) : ∃ cs, v = .agg cs ∧ cs.size = P.cellsOf t := by
  simp only [Value.okWide, ht] at h
  obtain ⟨cs, h1, h2, _⟩ := h
  exact ⟨cs, h1, h2⟩
theorem open_items {H : Type} {enc : TypeId × Value → H} {w : World} {r : Reach} {v : Value} {d : DataW H} {p : List MemPlace} {b : Nat} (hv : Value.okWide Try.prog w r b 23 v) (h : DataW.Trod enc Try.prog w 0 (fun _ => true) true 23 v d p) :
    ∃ i : It, v = .agg #[.int .i64 i.a, .int .i64 i.b, .int .i64 i.c, .int .i64 i.d] := by
  obtain ⟨cs, rfl, hsz⟩ := okWide_array Try.underlying23 hv
  obtain ⟨c0, c1, c2, c3, rfl⟩ := array4 (hsz.trans (by kernel_rfl : Try.prog.cellsOf 23 = 4))
  obtain ⟨fuel, hf⟩ := h
  obtain ⟨xs, m, -, -, -, hl, hi⟩ := DataW.trod_array Try.underlying23 hf
  have hc : Try.prog.cellsOf 3 = 1 := by kernel_rfl
  rw [hc] at hi
  have g : ∀ i c, i < 4 → ((Value.agg #[c0, c1, c2, c3]).cells.toList.drop (i * 1)).take 1 = [c] → ∃ n : Int, c = .int .i64 n := by
    intro i c h4 hcs
    have := hi i h4
    rw [hcs, List.getElem?_eq_getElem (by omega)] at this
    obtain ⟨n, e, -, -⟩ := DataW.trod_int Try.underlying3 this
    exact ⟨n, by simpa using e⟩
  obtain ⟨n0, rfl⟩ := g 0 c0 (by omega) (by simp [Value.cells])
  obtain ⟨n1, rfl⟩ := g 1 c1 (by omega) (by simp [Value.cells])
  obtain ⟨n2, rfl⟩ := g 2 c2 (by omega) (by simp [Value.cells])
  obtain ⟨n3, rfl⟩ := g 3 c3 (by omega) (by simp [Value.cells])
  exact ⟨⟨n0, n1, n2, n3⟩, rfl⟩
end Go.Proofs.Ytbkagefapmnojaa
