/- The document's Reader of bytes that came in, as a thing that stays apart. -/
import Derived.Test.YtbkagefapmnojaaRdSt
namespace Go.Proofs.Ytbkagefapmnojaa
open Go.RowKit

/-- The document's Reader p of bytes that lie in the memory of old, at block g. -/
def thRO (W : World) (p g : Nat) (rest : List UInt8) (bad : Bool) : Th where
  T w := (bad = true → rest = []) ∧ ∃ ao cap, w.heap[p]? = some (.cells #[.slice ao rest.length cap, .bool bad] 50 (0, 0)) ∧ rest.length ≤ cap ∧ cap ≤ 9223372036854775807 ∧ (ao = none → rest.length = 0 ∧ cap = 0) ∧ g ≠ p ∧ (0 < rest.length → ∃ off, ao = some ⟨g, off, none⟩ ∧ g < W.heap.size ∧ BRow W g off rest)
  F x := x = p
  stay h k hS := by
    obtain ⟨h0, ao, cap, h1, r⟩ := h
    exact ⟨h0, ao, cap, (k.block p (lt_of_block h1) (hS p rfl)).trans h1, r⟩
  lt h e := by
    obtain ⟨h0, ao, cap, h1, r⟩ := h
    exact e ▸ lt_of_block h1
theorem RO.rr {W w : World} {p g : Nat} {rest : List UInt8} {bad : Bool} (h : (thRO W p g rest bad).T w) (b : Below W.heap.size W w) : RRAt w p g rest bad := by
  obtain ⟨h0, ao, cap, h1, h2, h3, h4, h5, h6⟩ := h
  refine ⟨h0, ao, cap, h1, h2, h3, h4, h5, fun hl => ?_⟩
  obtain ⟨off, e, hg, hr⟩ := h6 hl
  exact ⟨off, e, Nat.lt_of_lt_of_le hg b.size, hr.below hg b⟩
theorem RO.of {W w : World} {p g : Nat} {rest : List UInt8} {bad : Bool} (h : RRAt w p g rest bad) (b : Below W.heap.size W w) (hg : 0 < rest.length → g < W.heap.size) : (thRO W p g rest bad).T w := by
  obtain ⟨h0, ao, cap, h1, h2, h3, h4, h5, h6⟩ := h
  refine ⟨h0, ao, cap, h1, h2, h3, h4, h5, fun hl => ?_⟩
  obtain ⟨off, e, -, hr⟩ := h6 hl
  exact ⟨off, e, hg hl, fun i hi => (b.cell (p := ⟨g, _, none⟩) (hg hl)).symm.trans (hr i hi)⟩
theorem RO.old {W w : World} {p g : Nat} {rest : List UInt8} {bad : Bool} (h : (thRO W p g rest bad).T w) (hl : 0 < rest.length) : g < W.heap.size := by
  obtain ⟨h0, ao, cap, h1, h2, h3, h4, h5, h6⟩ := h
  obtain ⟨off, e, hg, hr⟩ := h6 hl
  exact hg
/-- It is made. -/
theorem St.newRO {W w : World} {L : List Th} (h : St W w L) (n : Nat) (hn : n = w.heap.size) (ao : Option Addr) (cap : Nat) (l : List UInt8) (hlc : l.length ≤ cap) (hcm : cap ≤ 9223372036854775807) (h0 : ao = none → l.length = 0 ∧ cap = 0) (ha : BAt W ao l) :
    ∃ g, St W (w.alloc (.cells #[.slice ao l.length cap, .bool false] 50)) (thRO W n g l false :: L) := by
  subst hn
  have hW := h.b.size
  have key : ∀ g, g ≠ w.heap.size → (0 < l.length → ∃ off, ao = some ⟨g, off, none⟩ ∧ g < W.heap.size ∧ BRow W g off l) → St W (w.alloc (.cells #[.slice ao l.length cap, .bool false] 50)) (thRO W w.heap.size g l false :: L) := fun g hg hl =>
    h.new (below_allocO _ _) (thRO W w.heap.size g l false) ⟨fun e => (nomatch e), ao, cap, heap_new w _, hlc, hcm, h0, hg, hl⟩ (fun x hx => by have hx : x = w.heap.size := hx; rw [hx]; exact Nat.le_refl _)
  by_cases hp : 0 < l.length
  · obtain ⟨b, off, e, hb, hr⟩ := ha hp
    exact ⟨b, key b (by omega) (fun _ => ⟨off, e, hb, hr⟩)⟩
  · exact ⟨w.heap.size + 1, key _ (by omega) (fun h => absurd h hp)⟩
theorem St.stepRO {W w w' : World} {L : List Th} {p g : Nat} {rest rest' : List UInt8} {bad bad' : Bool} (h : St W w (thRO W p g rest bad :: L)) (hr : RRAt w' p g rest' bad') (k : Keeps w w' (fun x => x = p)) (hl : rest'.length ≤ rest.length) : St W w' (thRO W p g rest' bad' :: L) := by
  have hb : Below W.heap.size W w' := h.b.trans (k.below (fun x hx => by rw [hx]; exact h.t.2.1 p rfl) h.b.size)
  exact h.step k _ (RO.of hr hb (fun hp => RO.old h.head (by omega))) (fun x hx => .inl hx)
/-- A number. -/
theorem St.readNumO {W w : World} {L : List Th} {p g : Nat} {rest : List UInt8} {bad : Bool} (h : St W w (thRO W p g rest bad :: L)) (hm : rest.length ≤ 140737488351232) :
    Calls Try.prog 38 #[.pointer (some ⟨p, 0, none⟩)] w fun e w' => e = .returned (.int .i64 ((numT rest bad).1 : Nat)) ∧ St W w' (thRO W p g (numT rest bad).2.1 (numT rest bad).2.2 :: L) := by
  refine (rrnum_k p g rest bad 0 w (RO.rr h.head h.b) hm).mono ?_
  rintro e w' ⟨rfl, hr, hk⟩
  exact ⟨rfl, h.stepRO hr hk (numT_le _ _).1⟩
theorem St.wholeO {W w : World} {L : List Th} {p g : Nat} {rest : List UInt8} {bad : Bool} (h : St W w (thRO W p g rest bad :: L)) :
    Calls Try.prog 31 #[.pointer (some ⟨p, 0, none⟩)] w fun e w' => e = .returned (.bool (!bad && rest.isEmpty)) ∧ w' = w := rrwhole_any p g rest bad w (RO.rr h.head h.b)
end Go.Proofs.Ytbkagefapmnojaa
