/- A request as bytes, in plain Lean. -/
import Derived.Test.YtglidhbkglfkeaaOp
import Derived.Lib.ConvBytes
namespace Go.Proofs.Ytglidhbkglfkeaa
open Go.RowKit

/-- A text's bytes, with their number ahead. -/
def encS (s : ByteArray) : List UInt8 := encRow s.data.toList
def b1 (b : Bool) : Int := if b then 1 else 0
/-- A request's bytes. -/
def encO (o : Rq) : List UInt8 := encs [o.kind, o.client, o.seq] ++ (encS o.key ++ encS o.who ++ encS o.tkey ++ encS o.twho) ++ encs [o.item, o.count, o.price, b1 o.buy, o.id]
theorem conv_bytes (w : World) (s : ByteArray) : (convert 9 27 (.string s)).run Try.prog w = .ok (.slice (some ⟨w.heap.size, 0, none⟩) s.size (grownCap w s.size 0 5)) (Lib.bytesWorld w 5 s) :=
  Lib.run_convert_string_bytes w 9 27 5 s Try.underlying9 Try.underlying27 Try.underlying5
theorem bytesWorld_below (w : World) (s : ByteArray) : Below w.heap.size w (Lib.bytesWorld w 5 s) :=
  ⟨rfl, rfl, rfl, by rw [Lib.bytesWorld_size]; omega, fun k hk => Lib.bytesWorld_at_old w _ s k hk⟩
theorem bytesWorld_bat (w : World) (s : ByteArray) : BAt (Lib.bytesWorld w 5 s) (some ⟨w.heap.size, 0, none⟩) s.data.toList := fun _ => by
  refine ⟨w.heap.size, 0, rfl, by rw [Lib.bytesWorld_size]; omega, fun i hi => ?_⟩
  have hs : i < s.size := by simpa using hi
  rw [Nat.zero_add, Lib.bytesWorld_cell w _ s i hs]
  simp [List.getD, List.getElem?_eq_getElem hi]
@[go_sem] theorem bytesWorld_sz (w : World) (s : ByteArray) : (Lib.bytesWorld w 5 s).heap.size = w.heap.size + 1 := Lib.bytesWorld_size w _ s
@[go_sem] theorem bytesWorld_old (w : World) (s : ByteArray) (b o : Nat) (h : b < w.heap.size) : (Lib.bytesWorld w 5 s).cell? ⟨b, o, none⟩ = w.cell? ⟨b, o, none⟩ := (bytesWorld_below w s).cell (p := ⟨b, o, none⟩) h
theorem data_of {s t : ByteArray} : s.toList = t.toList ↔ s.data.toList = t.data.toList := by
  rw [ByteArray.toList_eq, ByteArray.toList_eq]
theorem size_nil {s : ByteArray} (h : s.toList = []) : s.size = 0 := by
  rw [ByteArray.toList_eq] at h
  have h2 := congrArg List.length h
  rw [Array.length_toList] at h2
  exact h2
theorem may_kind {o : Rq} (h : mayO o = true) : placeB o.key o.who = true ∧ kindO o = true ∧ 1 ≤ o.client ∧ o.client ≤ 1048576 ∧ 1 ≤ o.seq ∧ o.seq ≤ 1099511627776 := by
  simp only [mayO, Bool.and_eq_true, decide_eq_true_eq] at h
  obtain ⟨⟨h1, h2⟩, h3⟩ := h
  exact ⟨h2, h3, h1⟩
theorem kind_parts {o : Rq} (h : kindO o = true) : ((o.kind = 1 ∨ o.kind = 6) ∧ cntO o = true) ∨ (o.kind = 2 ∧ sendO o = true) ∨ (o.kind = 3 ∧ ordO o = true) ∨ (o.kind = 4 ∧ canO o = true) ∨ ((o.kind = 5 ∨ o.kind = 7) ∧ barO o = true) := by
  unfold kindO at h
  split at h
  · exact .inl ⟨by assumption, h⟩
  · split at h
    · exact .inr (.inl ⟨by assumption, h⟩)
    · split at h
      · exact .inr (.inr (.inl ⟨by assumption, h⟩))
      · split at h
        · exact .inr (.inr (.inr (.inl ⟨by assumption, h⟩)))
        · split at h
          · exact .inr (.inr (.inr (.inr ⟨by assumption, h⟩)))
          · cases h
theorem may_sizes {o : Rq} (h : mayO o = true) : o.key.size ≤ 16 ∧ o.who.size ≤ 16 ∧ o.tkey.size ≤ 16 ∧ o.twho.size ≤ 16 := by
  obtain ⟨hp, hk, -⟩ := may_kind h
  simp only [placeB, decide_eq_true_eq] at hp
  refine ⟨hp.2.1, hp.2.2.2, ?_⟩
  rcases kind_parts hk with ⟨-, h⟩ | ⟨-, h⟩ | ⟨-, h⟩ | ⟨-, h⟩ | ⟨-, h⟩
  · simp only [cntO, decide_eq_true_eq] at h
    rw [size_nil h.2.2.2.2.1, size_nil h.2.2.2.2.2.1]; omega
  · simp only [sendO, placeB, Bool.and_eq_true, decide_eq_true_eq] at h
    omega
  · simp only [ordO, cntO, Bool.and_eq_true, decide_eq_true_eq] at h
    rw [size_nil h.2.2.2.2.2.1, size_nil h.2.2.2.2.2.2.1]; omega
  · simp only [canO, decide_eq_true_eq] at h
    rw [size_nil h.2.2.1, size_nil h.2.2.2.1]; omega
  · simp only [barO, decide_eq_true_eq] at h
    rw [size_nil h.1, size_nil h.2.1]; omega
end Go.Proofs.Ytglidhbkglfkeaa
