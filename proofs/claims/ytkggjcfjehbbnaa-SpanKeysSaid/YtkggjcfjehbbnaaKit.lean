/- Small lemmas of the walks: naming the world at hand; what a contract that ends in 'Below' leaves of old cells; the condition of a region that only grows the world. -/
import Derived.Test.YtkggjcfjehbbnaaChecked
import Derived.WalkKit
import Derived.WalkSpells
import Derived.WalkLawsBesides
import Derived.Outline
import Derived.Deep.RegionHeld3
import Derived.RegionTactic
import Derived.BigRegion
import Derived.BigQuiet
import Derived.Lib.Hide
namespace Go.Proofs.Ytkggjcfjehbbnaa
open Go.RowKit

theorem bcell {W w1 : World} (hb : Below W.heap.size W w1) : (∀ b o, b < W.heap.size → w1.cell? ⟨b, o, none⟩ = W.cell? ⟨b, o, none⟩) ∧ (∀ b o, b < W.heap.size → w1.frozen? ⟨b, o, none⟩ = W.frozen? ⟨b, o, none⟩) :=
  ⟨fun b o h => hb.cell (p := ⟨b, o, none⟩) h, fun b o h => hb.frozen (p := ⟨b, o, none⟩) h⟩

@[go_sem] theorem lt_two (n : Nat) : n < n + 1 + 1 := by omega
@[go_sem] theorem lt_three (n : Nat) : n < n + 1 + 1 + 1 := by omega
@[go_sem] theorem lt_four (n : Nat) : n < n + 1 + 1 + 1 + 1 := by omega
@[go_sem] theorem lt_five (n : Nat) : n < n + 1 + 1 + 1 + 1 + 1 := by omega
@[go_sem] theorem lt_six (n : Nat) : n < n + 1 + 1 + 1 + 1 + 1 + 1 := by omega
theorem calls_name {P : Program} {f : FuncId} {args : Array Value} {R : Ending → World → Prop} {w : World} (h : ∀ w3, w3 = w → Calls P f args w3 R) : Calls P f args w R := h w rfl
theorem wp_name {P : Program} {c : Code} {Q : Exit → Act → World → Prop} {a : Act} {w : World} (h : ∀ w3, w3 = w → c.wp P Q a w3) : c.wp P Q a w := h w rfl
theorem stay_drew (w3 : World) : Below w3.heap.size w3 w3.drew ∧ ∀ b o, b < w3.heap.size → w3.drew.cell? ⟨b, o, none⟩ = w3.cell? ⟨b, o, none⟩ :=
  ⟨(Below.refl _ _).drew, fun _ _ _ => rfl⟩
theorem stay_below {w3 W : World} (h : Below w3.heap.size w3 W ∧ ∀ b o, b < w3.heap.size → W.cell? ⟨b, o, none⟩ = w3.cell? ⟨b, o, none⟩) : Below w3.heap.size w3 W := h.1
theorem stay_next {w3 W W' : World} (h : Below w3.heap.size w3 W ∧ ∀ b o, b < w3.heap.size → W.cell? ⟨b, o, none⟩ = w3.cell? ⟨b, o, none⟩) (hb : Below W.heap.size W W') :
    Below w3.heap.size w3 W' ∧ ∀ b o, b < w3.heap.size → W'.cell? ⟨b, o, none⟩ = w3.cell? ⟨b, o, none⟩ :=
  ⟨h.1.trans (hb.mono h.1.size), fun b o hbo => (bcell (h.1.trans (hb.mono h.1.size))).1 b o hbo⟩

end Go.Proofs.Ytkggjcfjehbbnaa
