/- Things that the call made, each with the blocks that it may write: they stay apart. -/
import Derived.Test.YtcboflabjdiadaaBytes
namespace Go.Proofs.Ytcboflabjdiadaa
open Go.RowKit

structure Th where
  T : World → Prop
  F : Nat → Prop
  stay : ∀ {w w' : World} {S : Nat → Prop}, T w → Keeps w w' S → (∀ x, F x → ¬ S x) → T w'
  lt : ∀ {w : World} {x : Nat}, T w → F x → x < w.heap.size
def Ths (B : Nat) (w : World) : List Th → Prop
  | [] => True
  | t :: r => t.T w ∧ (∀ x, t.F x → B ≤ x) ∧ (∀ u ∈ r, ∀ x, t.F x → ¬ u.F x) ∧ Ths B w r
theorem Ths.keep {B : Nat} {w w' : World} {S : Nat → Prop} : ∀ {L : List Th}, Ths B w L → Keeps w w' S → (∀ t ∈ L, ∀ x, t.F x → ¬ S x) → Ths B w' L
  | [], _, _, _ => trivial
  | t :: r, h, k, hS => ⟨t.stay h.1 k (hS t (by simp)), h.2.1, h.2.2.1, Ths.keep h.2.2.2 k fun u hu => hS u (by simp [hu])⟩
theorem Ths.lts {B : Nat} {w : World} : ∀ {L : List Th}, Ths B w L → ∀ t ∈ L, ∀ x, t.F x → x < w.heap.size ∧ B ≤ x
  | [], _, t, ht, _, _ => by simp at ht
  | u :: r, h, t, ht, x, hx => by
    rcases List.mem_cons.1 ht with e | e
    · subst e; exact ⟨t.lt h.1 hx, h.2.1 x hx⟩
    · exact Ths.lts h.2.2.2 t e x hx
theorem Ths.pull {B : Nat} {w : World} {t : Th} {R : List Th} : ∀ {A : List Th}, Ths B w (A ++ t :: R) → Ths B w (t :: (A ++ R))
  | [], h => h
  | a :: A, h => by
    have ih := Ths.pull h.2.2.2
    refine ⟨ih.1, ih.2.1, fun u hu x hx => ?_, h.1, h.2.1, fun u hu => h.2.2.1 u (by simp at hu ⊢; rcases hu with e | e; exact .inl e; exact .inr (.inr e)), ih.2.2.2⟩
    rcases List.mem_cons.1 hu with e | e
    · subst e; exact fun ha => h.2.2.1 t (by simp) x ha hx
    · exact ih.2.2.1 u e x hx
/-- The state of a law's walk: memory of old stands; the things made stay apart. -/
structure St (W w : World) (L : List Th) : Prop where
  b : Below W.heap.size W w
  t : Ths W.heap.size w L
theorem keeps_same0 {w w' : World} (h : Below w.heap.size w w') (S : Nat → Prop) : Keeps w w' S := Keeps.of_grown h (Nat.le_refl _) S
theorem St.start (W : World) : St W W [] := ⟨Below.refl _ _, trivial⟩
theorem St.grow {W w w' : World} {L : List Th} (h : St W w L) (b : Below w.heap.size w w') : St W w' L := ⟨h.b.trans (b.mono h.b.size), h.t.keep (keeps_same0 b (fun _ => False)) (fun _ _ _ _ h => h)⟩
theorem St.new {W w w' : World} {L : List Th} (h : St W w L) (b : Below w.heap.size w w') (t : Th) (ht : t.T w') (hF : ∀ x, t.F x → w.heap.size ≤ x) : St W w' (t :: L) :=
  ⟨(h.grow b).b, ht, fun x hx => Nat.le_trans h.b.size (hF x hx), fun u hu x hx hux => by have := (h.t.lts u hu x hux).1; have := hF x hx; omega, (h.grow b).t⟩
theorem St.step {W w w' : World} {t : Th} {L : List Th} (h : St W w (t :: L)) (k : Keeps w w' t.F) (t' : Th) (ht : t'.T w') (hF : ∀ x, t'.F x → t.F x ∨ w.heap.size ≤ x) : St W w' (t' :: L) :=
  ⟨h.b.trans (k.below (fun x hx => h.t.2.1 x hx) h.b.size), ht, fun x hx => (hF x hx).elim (h.t.2.1 x) (fun h1 => Nat.le_trans h.b.size h1), fun u hu x hx hux => (hF x hx).elim (fun h1 => h.t.2.2.1 u hu x h1 hux) (fun h1 => by have := (h.t.2.2.2.lts u hu x hux).1; omega), h.t.2.2.2.keep k (fun u hu x hx hs => h.t.2.2.1 u hu x hs hx)⟩
/-- A thing is spoilt and left. -/
theorem St.lose {W w w' : World} {t : Th} {L : List Th} (h : St W w (t :: L)) (k : Keeps w w' t.F) : St W w' L :=
  ⟨h.b.trans (k.below (fun x hx => h.t.2.1 x hx) h.b.size), h.t.2.2.2.keep k (fun u hu x hx hs => h.t.2.2.1 u hu x hs hx)⟩
theorem St.pull {W w : World} {A R : List Th} {t : Th} (h : St W w (A ++ t :: R)) : St W w (t :: (A ++ R)) := ⟨h.b, h.t.pull⟩
theorem St.drop {W w : World} {t : Th} {L : List Th} (h : St W w (t :: L)) : St W w L := ⟨h.b, h.t.2.2.2⟩
theorem St.head {W w : World} {t : Th} {L : List Th} (h : St W w (t :: L)) : t.T w := h.t.1
theorem own_keeps {w w' : World} {base : Nat} {ao : Option Addr} {cap : Nat} {l : List UInt8} {S : Nat → Prop} (h : OwnB w base ao cap l) (k : Keeps w w' S) (hn : ∀ g, (Value.slice ao l.length cap).ownBlock = some g → ¬ S g) : OwnB w' base ao cap l := by
  refine ⟨h.1, ?_⟩
  rcases h.2 with h2 | ⟨g, c, cur, hv, hg, hh, r⟩
  · exact .inl h2
  · exact .inr ⟨g, c, cur, hv, hg, (k.block g (Array.getElem?_eq_some_iff.1 hh).1 (hn g (by rw [hv]; rfl))).trans hh, r⟩
theorem own_grow {w w' : World} {base : Nat} {ao : Option Addr} {cap : Nat} {l : List UInt8} (h : OwnB w base ao cap l) (b : Below w.heap.size w w') : OwnB w' base ao cap l := own_keeps h (keeps_same0 b (fun _ => False)) (fun _ _ h => h)
theorem own_lt {w : World} {base : Nat} {ao : Option Addr} {cap : Nat} {l : List UInt8} (h : OwnB w base ao cap l) : ∀ g, (Value.slice ao l.length cap).ownBlock = some g → g < w.heap.size ∧ base ≤ g := by
  intro g hg
  rcases h.2 with ⟨hv, -⟩ | ⟨g', c, cur, hv, hb, hh, -⟩
  · rw [hv] at hg; simp [Value.ownBlock] at hg
  · rw [hv] at hg
    simp only [Value.ownBlock, Option.some.injEq] at hg
    subst hg
    exact ⟨lt_of_block hh, hb⟩
theorem ownBlock_of {ao : Option Addr} {n c g : Nat} (h : (Value.slice ao n c).ownBlock = some g) : ∃ a, ao = some a ∧ a.block = g := by
  cases ao with
  | none => simp [Value.ownBlock] at h
  | some a => exact ⟨a, rfl, by simpa [Value.ownBlock] using h⟩
/-- Bytes of the call's own. -/
def thOwn (base : Nat) (ao : Option Addr) (cap : Nat) (l : List UInt8) : Th where
  T w := OwnB w base ao cap l
  F x := ∃ a, ao = some a ∧ a.block = x
  stay h k hS := own_keeps h k (fun g hg => hS g (ownBlock_of hg))
  lt h hx := by
    obtain ⟨a, rfl, rfl⟩ := hx
    exact (own_lt h a.block rfl).1
theorem St.own {W w w' : World} {L : List Th} {ao : Option Addr} {cap : Nat} {l : List UInt8} (h : St W w L) (b : Below w.heap.size w w') (ho : OwnB w' w.heap.size ao cap l) : St W w' (thOwn w.heap.size ao cap l :: L) :=
  h.new b _ ho (fun x hx => by
    obtain ⟨a, rfl, rfl⟩ := hx
    exact (own_lt ho a.block rfl).2)
/-- A row of the call's own, of whatever elements. -/
def thRow (base : Nat) (e : TypeId) (size : Nat) (ao : Option Addr) (n cap : Nat) (xs : List Value) : Th where
  T w := w.ownsRow base e size (.slice ao n cap) n xs
  F x := ∃ a, ao = some a ∧ a.block = x
  stay h k hS := by
    refine ⟨h.1, ?_⟩
    rcases h.2 with h2 | ⟨g, c, cur, hv, hg, hh, r⟩
    · exact .inl h2
    · exact .inr ⟨g, c, cur, hv, hg, (k.block g (Array.getElem?_eq_some_iff.1 hh).1 (hS g (by simp only [Value.slice.injEq] at hv; exact ⟨_, hv.1, rfl⟩))).trans hh, r⟩
  lt h hx := by
    obtain ⟨a, rfl, rfl⟩ := hx
    exact (h.lt a.block rfl).2
theorem St.nilRow {W w : World} {L : List Th} (h : St W w L) (e : TypeId) (size : Nat) : St W w (thRow W.heap.size e size none 0 0 [] :: L) :=
  ⟨h.b, World.ownsRow_nil _ _ _ _, fun x hx => (by obtain ⟨a, e, -⟩ := hx; cases e), fun u _ x hx => (by obtain ⟨a, e, -⟩ := hx; cases e), h.t⟩
theorem St.appendedRow {W w w' : World} {L : List Th} {ao co : Option Addr} {e : TypeId} {size n m cap c' : Nat} {xs news : List Value} (h : St W w (thRow W.heap.size e size ao n cap xs :: L)) (hown : w'.ownsRow W.heap.size e size (.slice co (n + m) c') (n + m) (xs ++ news)) (hg : w.grownBy w' (Value.slice ao n cap).ownBlock) (hco : ∀ g, co = some g → ao = some g ∨ w.heap.size ≤ g.block) : St W w' (thRow W.heap.size e size co (n + m) c' (xs ++ news) :: L) := by
  refine h.step ((Keeps.grown hg).weak (fun i _ e => ownBlock_of e.symm)) _ hown (fun x hx => ?_)
  obtain ⟨a, rfl, rfl⟩ := hx
  rcases hco a rfl with h1 | h1
  · exact .inl ⟨a, h1, rfl⟩
  · exact .inr h1
theorem St.appended {W w w' : World} {L : List Th} {ao co : Option Addr} {cap c' : Nat} {l news : List UInt8} (h : St W w (thOwn W.heap.size ao cap l :: L)) (hown : w'.ownsRow W.heap.size 5 1 (.slice co (l.length + news.length) c') (l.length + news.length) (bytV l ++ bytV news)) (hg : w.grownBy w' (Value.slice ao l.length cap).ownBlock) (hco : ∀ g, co = some g → ao = some g ∨ w.heap.size ≤ g.block) : St W w' (thOwn W.heap.size co c' (l ++ news) :: L) := by
  refine h.step ((Keeps.grown hg).weak (fun i _ e => ownBlock_of e.symm)) _ (show OwnB w' W.heap.size co c' (l ++ news) by unfold OwnB; rw [← bytV_append, List.length_append]; exact hown) (fun x hx => ?_)
  obtain ⟨a, rfl, rfl⟩ := hx
  rcases hco a rfl with h1 | h1
  · exact .inl ⟨a, h1, rfl⟩
  · exact .inr h1
theorem St.nil {W w : World} {L : List Th} (h : St W w L) : St W w (thOwn W.heap.size none 0 [] :: L) :=
  ⟨h.b, ⟨rfl, .inl ⟨rfl, rfl⟩⟩, fun x hx => (by obtain ⟨a, e, -⟩ := hx; cases e), fun u _ x hx => (by obtain ⟨a, e, -⟩ := hx; cases e), h.t⟩
end Go.Proofs.Ytcboflabjdiadaa
