/- Small lemmas of the walks: naming the world at hand; what a contract that ends in 'Below' leaves of old cells; the condition of a region that only grows the world. -/
import Derived.Test.YtcboflabjdiadaaChecked
import Derived.WalkKit
import Derived.WalkSpells
import Derived.WalkLawsBesides
import Derived.Outline
import Derived.Deep.RegionHeld3
import Derived.RegionTactic
import Derived.BigRegion
import Derived.BigQuiet
import Derived.Lib.Hide
import Derived.StillTailTactics
namespace Go.Proofs.Ytcboflabjdiadaa
open Go.RowKit

theorem bcell {W w1 : World} (hb : Below W.heap.size W w1) : (∀ b o, b < W.heap.size → w1.cell? ⟨b, o, none⟩ = W.cell? ⟨b, o, none⟩) ∧ (∀ b o, b < W.heap.size → w1.frozen? ⟨b, o, none⟩ = W.frozen? ⟨b, o, none⟩) :=
  ⟨fun b o h => hb.cell (p := ⟨b, o, none⟩) h, fun b o h => hb.frozen (p := ⟨b, o, none⟩) h⟩

@[go_sem] theorem lt_two (n : Nat) : n < n + 1 + 1 := by omega
@[go_sem] theorem lt_three (n : Nat) : n < n + 1 + 1 + 1 := by omega
@[go_sem] theorem lt_four (n : Nat) : n < n + 1 + 1 + 1 + 1 := by omega
@[go_sem] theorem lt_five (n : Nat) : n < n + 1 + 1 + 1 + 1 + 1 := by omega
@[go_sem] theorem lt_six (n : Nat) : n < n + 1 + 1 + 1 + 1 + 1 + 1 := by omega
theorem below_drawn {B : Nat} {a w : World} {n : Nat} (h : Below B a w) : Below B a (w.drewN n) := ⟨h.os, h.tape, h.output, h.size, h.block⟩
theorem calls_name {P : Program} {f : FuncId} {args : Array Value} {R : Ending → World → Prop} {w : World} (h : ∀ w3, w3 = w → Calls P f args w3 R) : Calls P f args w R := h w rfl
theorem wp_name {P : Program} {c : Code} {Q : Exit → Act → World → Prop} {a : Act} {w : World} (h : ∀ w3, w3 = w → c.wp P Q a w3) : c.wp P Q a w := h w rfl
theorem stay_drew (w3 : World) : Below w3.heap.size w3 w3.drew ∧ ∀ b o, b < w3.heap.size → w3.drew.cell? ⟨b, o, none⟩ = w3.cell? ⟨b, o, none⟩ :=
  ⟨(Below.refl _ _).drew, fun _ _ _ => rfl⟩
theorem stay_mk {w3 W : World} (hb : Below w3.heap.size w3 W) : Below w3.heap.size w3 W ∧ ∀ b o', b < w3.heap.size → W.cell? ⟨b, o', none⟩ = w3.cell? ⟨b, o', none⟩ :=
  ⟨hb, fun b o' h => hb.cell (p := ⟨b, o', none⟩) h⟩
theorem stay_below {w3 W : World} (h : Below w3.heap.size w3 W ∧ ∀ b o, b < w3.heap.size → W.cell? ⟨b, o, none⟩ = w3.cell? ⟨b, o, none⟩) : Below w3.heap.size w3 W := h.1
theorem stay_next {w3 W W' : World} (h : Below w3.heap.size w3 W ∧ ∀ b o, b < w3.heap.size → W.cell? ⟨b, o, none⟩ = w3.cell? ⟨b, o, none⟩) (hb : Below W.heap.size W W') :
    Below w3.heap.size w3 W' ∧ ∀ b o, b < w3.heap.size → W'.cell? ⟨b, o, none⟩ = w3.cell? ⟨b, o, none⟩ :=
  ⟨h.1.trans (hb.mono h.1.size), fun b o hbo => (bcell (h.1.trans (hb.mono h.1.size))).1 b o hbo⟩


/-! A region that draws its order, whose operations read what stood there when it began, and whose callees only grow the world: one walk of the lexical order (the class of worlds: those that grew out of w). -/
structure Gr (w : World) where
  to : World
  below : Below w.heap.size w to
instance grThere (w : World) : Nonempty (Gr w) := ⟨⟨w, Below.refl _ _⟩⟩
def gr (w : World) (g : Gr w) : World := g.to
@[go_sem] theorem gr_cell (w : World) (g : Gr w) (b o : Nat) (h : b < w.heap.size) : (gr w g).cell? ⟨b, o, none⟩ = w.cell? ⟨b, o, none⟩ := g.below.cell (p := ⟨b, o, none⟩) h
@[go_sem] theorem gr_frozen (w : World) (g : Gr w) (b o : Nat) (h : b < w.heap.size) : (gr w g).frozen? ⟨b, o, none⟩ = w.frozen? ⟨b, o, none⟩ := g.below.frozen (p := ⟨b, o, none⟩) h
theorem gr_below (w : World) (g : Gr w) : Below w.heap.size w (gr w g) := g.below
theorem gr_le (w : World) (g : Gr w) : w.heap.size ≤ (gr w g).heap.size := g.below.size
theorem wp_region_gr {P : Program} {id : Nat} {Q : Exit → Act → World → Prop} {a : Act} {w : World} {l : List Oper} (hm : P.follows .mixedOrders = true) (hB : Region.lexB .any l.toArray = true)
    (h : wpQuiet P l.toArray (fun w' => ∃ g, w' = gr w g) (fun a' => ∀ w', (∃ g, w' = gr w g) → Q .normal a' w') l a) : (Code.region id l.toArray true).wp P Q a w :=
  wp_region_quiet (C := fun w' => ∃ g, w' = gr w g) hm hB ⟨⟨w.drew, (Below.refl _ _).drew⟩, rfl⟩ (by simpa using h)
theorem calls_bool {P : Program} {f : FuncId} {args : Array Value} {w : World} {R : World → Prop} {b v : Bool} (h : b = v) (hc : Calls P f args w fun e w' => e = .returned (.bool b) ∧ R w') : Calls P f args w fun e w' => e = .returned (.bool v) ∧ R w' := h ▸ hc
theorem calls_gr {P : Program} {f : FuncId} {args : Array Value} {w : World} {g : Gr w} {v : Value}
    (h : Calls P f args (gr w g) fun e w' => e = .returned v ∧ Below (gr w g).heap.size (gr w g) w') : Calls P f args (gr w g) fun e w'' => e = .returned v ∧ ∃ m, w'' = gr w m :=
  h.mono fun _ w' ⟨he, hb⟩ => ⟨he, ⟨w', g.below.trans (hb.mono g.below.size)⟩, rfl⟩
end Go.Proofs.Ytcboflabjdiadaa
