/- The contract of octet.Join. -/
import Derived.Test.YtgbhbhmjolihnaaJoin
namespace Go.Proofs.Ytgbhbhmjolihnaa
open Go.RowKit Go.Shelf

/-- Bytes in memory of the call's own, told by their cells. -/
def OwnC (w : World) (base : Nat) (ao : Option Addr) (cap : Nat) (l : List UInt8) : Prop :=
  (ao = none ∧ l = [] ∧ cap = 0) ∨ ∃ (g : Nat) (zs : List UInt8), ao = some ⟨g, 0, none⟩ ∧ base ≤ g ∧ l.length ≤ cap ∧ cap ≤ maxLen ∧ zs.length = cap ∧ zs.take l.length = l ∧
    (∀ i, (h : i < zs.length) → w.cell? ⟨g, i, none⟩ = some (.int .u8 (zs[i].toNat : Int))) ∧ (∀ i, i < cap → w.frozen? ⟨g, i, none⟩ = false)
theorem OwnC.at {w : World} {base : Nat} {ao : Option Addr} {cap : Nat} {l : List UInt8} (h : OwnC w base ao cap l) : BAt w ao l := fun hp => by
  rcases h with ⟨-, rfl, -⟩ | ⟨g, zs, rfl, -, h1, -, h2, h3, h4, -⟩
  · simp at hp
  · have h0 := h4 0 (by omega)
    refine ⟨g, 0, rfl, ?_, fun i hi => ?_⟩
    · rcases Nat.lt_or_ge g w.heap.size with h | h
      · exact h
      · simp [World.cell?, Array.getElem?_eq_none h] at h0
    · rw [Nat.zero_add, h4 i (by omega)]
      have : l[i] = (zs.take l.length)[i]'(by rw [List.length_take]; omega) := by simp only [h3]
      rw [this, List.getElem_take]
theorem OwnC.none {w : World} {base : Nat} {ao : Option Addr} {cap : Nat} {l : List UInt8} (h : OwnC w base ao cap l) : ao = .none → l.length = 0 ∧ cap = 0 := fun e => by
  rcases h with ⟨-, rfl, rfl⟩ | ⟨g, zs, rfl, -⟩
  · exact ⟨rfl, rfl⟩
  · cases e
theorem OwnC.le {w : World} {base : Nat} {ao : Option Addr} {cap : Nat} {l : List UInt8} (h : OwnC w base ao cap l) : l.length ≤ cap ∧ cap ≤ 9223372036854775807 := by
  rcases h with ⟨-, rfl, rfl⟩ | ⟨g, zs, rfl, -, h1, h2, -⟩
  · exact ⟨Nat.le_refl _, by omega⟩
  · exact ⟨h1, by unfold maxLen at h2; omega⟩
/-- The post of a call that hands back such bytes. -/
def FreshC (w : World) (l : List UInt8) (e : Ending) (w' : World) : Prop := ∃ ao cap, e = .returned (.slice ao l.length cap) ∧ OwnC w' w.heap.size ao cap l ∧ Below w.heap.size w w'
theorem ownC_fresh {B : Nat} {w' : World} {v : Value} {l : List UInt8} (h : Lib.FreshBytes B w' v l) : ∃ ao cap, v = .slice ao l.length cap ∧ OwnC w' B ao cap l := by
  obtain ⟨g, cap, zs, rfl, hB, h1, h2, hz, hr, hb, hc, hf⟩ := h
  refine ⟨some ⟨g, 0, none⟩, cap, rfl, .inr ⟨g, zs.map fun n => UInt8.ofNat n.toNat, rfl, hB, h1, h2, by simpa using hz, ?_, fun i hi => ?_, hf⟩⟩
  · rw [← List.map_take]; exact hb
  · have hi' : i < zs.length := by simpa using hi
    rw [hc i (by omega)]
    have h3 := hr zs[i] (List.getElem_mem hi')
    simp only [List.getElem_map, List.getD_eq_getElem?_getD, List.getElem?_eq_getElem hi', Option.getD_some]
    congr 2
    simp only [UInt8.toNat_ofNat']
    omega
theorem lens_flat (L : List RowR) : Lib.lens (L.map (·.bs)) = (flatR L).length := by
  induction L with
  | nil => rfl
  | cons r t ih => rw [List.map_cons, Lib.lens_cons, ih]; simp [flatR]
theorem join_flat (L : List RowR) : Lib.join (L.map (·.bs)) [] = flatR L := by
  cases L with
  | nil => rfl
  | cons r t =>
    rw [List.map_cons, Lib.join_cons]
    unfold Lib.joinTail
    simp [flatR, List.flatMap_def, Function.comp_def]
theorem holds_of {w : World} {ao : Option Addr} {cap : Nat} {l : List UInt8} (h0 : ao = none → l.length = 0 ∧ cap = 0) (h : BAt w ao l) : Lib.HoldsBytes w (.slice ao l.length cap) l := by
  refine ⟨ao, cap, rfl, fun e => List.length_eq_zero_iff.1 (h0 e).1, fun a ha i x hx => ?_⟩
  subst ha
  have hi : i < l.length := (List.getElem?_eq_some_iff.1 hx).1
  obtain ⟨b, off, e, hb, hr⟩ := h (by omega)
  simp only [Option.some.injEq] at e
  subst e
  rw [add_none, hr i hi, (List.getElem?_eq_some_iff.1 hx).2]
theorem bjoin_any (ao : Option Addr) (cap : Nat) (L : List RowR) (D : Nat → Prop) (w : World) (h : RsAt w D ao L) (hc : L.length ≤ cap) (hm : L.length ≤ 140737488355328) (hl : (flatR L).length ≤ 140737488351232) :
    Calls Try.prog 32 #[.slice ao L.length cap, .slice none 0 0] w (FreshC w (flatR L)) := by
  cases L with
  | nil =>
    refine (show Calls Try.prog 32 #[.slice ao 0 cap, .slice none 0 0] w _ from Any.bytes_Join_none laysJ ao cap (.slice none 0 0) w).mono ?_
    rintro e w' ⟨rfl, rfl⟩
    exact ⟨some ⟨w.heap.size, 0, none⟩, 0, rfl, .inr ⟨w.heap.size, [], rfl, Nat.le_refl _, Nat.le_refl _, Nat.zero_le _, rfl, rfl, fun i hi => absurd hi (by simp), fun i hi => by omega⟩, (Below.refl _ _).alloc (Nat.le_refl _) _⟩
  | cons r t =>
    obtain ⟨b, off, rfl, hb, hd, hr⟩ := h (by simp)
    cases t with
    | nil =>
      have h0 := hr 0 (by simp)
      have hf : flatR [r] = r.bs := by simp [flatR]
      rw [hf] at hl ⊢
      have hcell : w.cell? ⟨b, off, none⟩ = some (.slice r.ao r.bs.length r.cap) := h0.c
      by_cases hp : 0 < r.bs.length
      · obtain ⟨g, go, hao, hg, -, hrow⟩ := h0.at_ hp
        simp only [List.getElem_cons_zero] at hao hrow
        rw [hao] at hcell
        refine (show Calls Try.prog 32 #[.slice (some ⟨b, off, none⟩) 1 cap, .slice none 0 0] w _ from Any.bytes_Join_one laysJ b off cap ⟨g, go, none⟩ r.cap r.bs (.slice none 0 0) w hcell (fun i x hx => by
          have hi := (List.getElem?_eq_some_iff.1 hx).1
          rw [add_none, hrow i hi, (List.getElem?_eq_some_iff.1 hx).2]) hp (by omega)).mono ?_
        rintro e w' ⟨v', rfl, hfr, hb'⟩
        obtain ⟨co, cc, rfl, ho⟩ := ownC_fresh hfr
        exact ⟨co, cc, rfl, ho, hb'⟩
      · have hz : r.bs = [] := List.length_eq_zero_iff.1 (by omega)
        rw [hz] at hcell ⊢
        refine (show Calls Try.prog 32 #[.slice (some ⟨b, off, none⟩) 1 cap, .slice none 0 0] w _ from Any.bytes_Join_one_empty laysJ b off cap r.ao r.cap (.slice none 0 0) w hcell).mono ?_
        rintro e w' ⟨rfl, rfl⟩
        exact ⟨none, 0, rfl, .inl ⟨rfl, rfl, rfl⟩, Below.refl _ _⟩
    | cons s q =>
      have hparts : Lib.PartsAt w ⟨b, off, none⟩ ((r :: s :: q).map fun r => Value.slice r.ao r.bs.length r.cap) ((r :: s :: q).map (·.bs)) := by
        refine ⟨by simp, fun i v hv => ?_, fun i v l hv hl => ?_⟩
        · obtain ⟨hi, hv⟩ := List.getElem?_eq_some_iff.1 hv
          simp only [List.length_map] at hi
          rw [add_none, (hr i hi).c, ← hv, List.getElem_map]
        · obtain ⟨hi, hv⟩ := List.getElem?_eq_some_iff.1 hv
          obtain ⟨hi2, hl⟩ := List.getElem?_eq_some_iff.1 hl
          simp only [List.length_map] at hi
          rw [← hv, ← hl, List.getElem_map, List.getElem_map]
          exact holds_of (hr i hi).n0 (hr i hi).at_.at
      have := Any.bytes_Join_many laysJ b off (r :: s :: q).length cap _ _ (.slice none 0 0) [] w (by simp) (by simp) hparts hc ⟨none, 0, rfl, fun _ => rfl, fun a ha => by cases ha⟩ hm (by rw [lens_flat]; simp only [List.length_nil, Nat.zero_mul]; omega)
      rw [join_flat] at this
      refine (show Calls Try.prog 32 #[.slice (some ⟨b, off, none⟩) (r :: s :: q).length cap, .slice none 0 0] w _ from this).mono ?_
      rintro e w' ⟨v', rfl, hfr, hb'⟩
      obtain ⟨co, cc, rfl, ho⟩ := ownC_fresh hfr
      exact ⟨co, cc, rfl, ho, hb'⟩
theorem join_any (ao : Option Addr) (cap : Nat) (L : List RowR) (D : Nat → Prop) (w : World) (h : RsAt w D ao L) (hc : L.length ≤ cap) (hm : L.length ≤ 140737488355328) (hl : (flatR L).length ≤ 140737488351232) :
    Calls Try.prog 22 #[.slice ao L.length cap] w (FreshC w (flatR L)) := by
  have H := Lib.hid (bjoin_any ao cap L D w h hc hm hl)
  clear h
  go_enter Try.func22, Try.ntmps22
  go_wp2_with fail
  refine H.out.mono ?_
  rintro e w1 ⟨co, cc, rfl, ho, hb⟩
  go_wp2_with fail
  go_ret
  exact ⟨co, cc, rfl, ho, hb⟩
end Go.Proofs.Ytgbhbhmjolihnaa
