/- spoil on bytes that the library made. -/
import Derived.Test.YtofkjogjnhnchaaSumsLaw
namespace Go.Proofs.Ytofkjogjnhnchaa
open Go.RowKit Go.Joins

def CellsU (w : World) (g n : Nat) : Prop := ∀ i, i < n → (∃ c : UInt8, w.cell? ⟨g, i, none⟩ = some (.int .u8 (c.toNat : Int))) ∧ w.frozen? ⟨g, i, none⟩ = false
theorem CellsU.set {w : World} {g n : Nat} (h : CellsU w g n) (k : Nat) (c : UInt8) : CellsU (w.setCell ⟨g, k, none⟩ (.int .u8 (c.toNat : Int))) g n := fun i hi => by
  obtain ⟨⟨d, hd⟩, hf⟩ := h i hi
  refine ⟨?_, by rw [World.frozen?_setCell]; exact hf⟩
  by_cases e : k = i
  · subst e; exact ⟨c, World.cell?_setCell_same w ⟨g, k, none⟩ _ hd⟩
  · exact ⟨d, (World.cell?_setCell_other w ⟨g, k, none⟩ ⟨g, i, none⟩ _ (fun h => e (congrArg Addr.off h))).trans hd⟩
theorem CellsU.own {w : World} {base g cap : Nat} {l : List UInt8} (h : OwnB w base (some ⟨g, 0, none⟩) cap l) : CellsU w g l.length := fun i hi =>
  ⟨⟨_, (World.ownsRow.cellAt h i (by omega)).trans (bytV_get l i hi)⟩, World.ownsRow.frozenAt h i⟩
theorem keeps_setCells (w : World) (b o : Nat) (vs : List Value) : Keeps w (w.setCells b o vs) (fun x => x = b) := by
  induction vs generalizing w o with
  | nil => exact Keeps.refl _ _
  | cons v r ih => exact (Keeps.set w ⟨b, o, none⟩ v).trans (ih _ _) (fun _ h => h) (fun _ _ h => h)

set_option maxHeartbeats 4000000 in
theorem spoilC_any (ao : Option Addr) (cap base : Nat) (l : List UInt8) (w : World) (h : OwnC w base ao cap l) (hm : l.length ≤ 140737488351232) :
    Calls Try.prog 17 #[.slice ao l.length cap] w fun e w' => e = .returned (.tuple #[]) ∧ Keeps w w' (fun x => (∃ a, ao = some a ∧ a.block = x) ∧ 0 < cap) := by
  obtain ⟨i0, hi, hz0, hz1, hz2⟩ := info_parts byteInfo
  have hle := h.le
  rcases h with ⟨rfl, rfl, rfl⟩ | ⟨g, zs, rfl, hbg, h1, h2, h3, h4, h5, h6⟩
  · refine (spoil_any none 0 w.heap.size [] w ⟨rfl, .inl ⟨rfl, rfl⟩⟩ (Nat.le_refl _) (by simp)).mono ?_
    rintro e w' ⟨rfl, hk⟩
    exact ⟨rfl, hk.weak (fun x _ h => by obtain ⟨a, e, -⟩ := h; cases e)⟩
  have hcu : CellsU w g cap := fun i hi => ⟨⟨_, h5 i (by omega)⟩, h6 i hi⟩
  have hglt0 : 0 < cap → g < w.heap.size := fun hc => by
    have h0 := h5 0 (by omega)
    rcases Nat.lt_or_ge g w.heap.size with h | h
    · exact h
    · simp [World.cell?, Array.getElem?_eq_none h] at h0
  have hrow : ∀ j (hj : j < l.length), w.cell? ⟨g, 0 + j, none⟩ = some (.int .u8 (l[j].toNat : Int)) := fun j hj => by
    rw [Nat.zero_add, h5 j (by omega)]
    have : l[j] = (zs.take l.length)[j]'(by rw [List.length_take]; omega) := by simp only [h4]
    rw [this, List.getElem_take]
  have hrow0 : ∀ j u, (bytV l)[j]? = some u → (w.alloc (.cells #[.int .u8 99] 5)).cell? ⟨g, 0 + j, none⟩ = some u := fun j u hu => by
    have hj : j < l.length := by rw [← bytV_length]; exact (List.getElem?_eq_some_iff.1 hu).1
    have hglt := hglt0 (by omega)
    rw [bytV_get l j hj] at hu
    rw [← hu]
    exact ((below_alloc w _).cell (p := ⟨g, 0 + j, none⟩) hglt).trans (hrow j hj)
  have hsp : l.length + 1 ≤ cap → ∀ j, j < (bytV [(99 : UInt8)]).length → ((w.alloc (.cells #[.int .u8 99] 5)).cell? ⟨g, 0 + l.length * 1 + j, none⟩).isSome = true ∧ (w.alloc (.cells #[.int .u8 99] 5)).frozen? ⟨g, 0 + l.length * 1 + j, none⟩ = false := fun hc j hj => by
    have hj0 : j = 0 := by simpa [bytV] using hj
    subst hj0
    have hglt := hglt0 (by omega)
    obtain ⟨⟨d, hd⟩, hf⟩ := hcu l.length (by omega)
    have e1 : (⟨g, 0 + l.length * 1 + 0, none⟩ : Addr) = ⟨g, l.length, none⟩ := by simp
    rw [e1, (below_alloc w _).cell (p := ⟨g, l.length, none⟩) hglt, (below_alloc w _).frozen (p := ⟨g, l.length, none⟩) hglt]
    exact ⟨by rw [hd]; rfl, hf⟩
  have Hcu := Lib.hid hcu
  have Hrow0 := Lib.hid hrow0
  have Hsp := Lib.hid hsp
  clear hrow hrow0 hsp hcu h5 h6 h4
  go_enter Try.func17, Try.ntmps17
  go_wp2_with (at_builtin; go_must (refine wpList_append_arg _ rfl (.tmp 4) (.tmp 5) 23 rfl 5 i0 (.int .u8 0) 1 1 Try.underlying23 hi hz0 hz1 hz2 rfl (by decide) g 0 l.length cap (bytV l) rfl (by rw [bytV_length, Nat.mul_one]) Hrow0.out ⟨w.heap.size, 0, none⟩ 1 1 (bytV [(99 : UInt8)]) rfl rfl (fun j u hu => one_cell _ _ _ _ rfl _ rfl j u hu) (bytV_one _) Hsp.out (by unfold maxLen; omega) (by omega) ?_ ?_))
  · intro hroom
    have hglt := hglt0 (by omega)
    have hk1 : Keeps w ((w.alloc (.cells #[.int .u8 99] 5)).setCells g l.length (bytV [(99 : UInt8)])) (fun x => x = g) := (keeps_same (below_alloc w _) (fun _ => False)).trans (keeps_setCells _ _ _ _) (fun _ h => h.elim) (fun _ _ h => h)
    have hcu1 : CellsU ((w.alloc (.cells #[.int .u8 99] 5)).setCells g l.length (bytV [(99 : UInt8)])) g (l.length + 1) := by
      have h0 : CellsU (w.alloc (.cells #[.int .u8 99] 5)) g (l.length + 1) := fun i hi => by
        obtain ⟨⟨d, hd⟩, hf⟩ := Hcu.out i (by omega)
        exact ⟨⟨d, ((below_alloc w _).cell (p := ⟨g, i, none⟩) hglt).trans hd⟩, ((below_alloc w _).frozen (p := ⟨g, i, none⟩) hglt).trans hf⟩
      exact h0.set l.length 99
    obtain ⟨wx, hwx⟩ : ∃ wx, wx = (w.alloc (.cells #[.int .u8 99] 5)).setCells g l.length (bytV [(99 : UInt8)]) := ⟨_, rfl⟩
    rw [← hwx] at hk1 hcu1 ⊢
    have Hk1 := Lib.hid hk1
    have Hcu1 := Lib.hid hcu1
    clear hwx hk1 hcu1 Hcu Hrow0 Hsp
    go_wp2_with fail
    go_loopw [3] (fun i wr => ∃ (k : Nat), i = .int .i64 k ∧ k ≤ l.length + 1 ∧ Hid (CellsU wr g (l.length + 1)) ∧ Hid (Keeps w wr (fun x => x = g))) (fun i _ => l.length + 1 - (intOf i).toNat)
    case atStart => exact ⟨0, rfl, by omega, Hcu1, Hk1⟩
    case round =>
      obtain ⟨k, rfl, hk, ho, hkp⟩ := hrel
      by_cases hlt : k < l.length + 1
      · obtain ⟨⟨d, hc⟩, hf⟩ := ho.out k hlt
        go_wp2_with fail
        go_roundw
        case rel => exact ⟨k + 1, by go_num, by omega, ho.out.set k 98, hkp.out.trans (Keeps.set _ _ _) (fun _ h => h) (fun _ _ h => h)⟩
        case measure => simp [intOf]; omega
      · go_wp2_with fail
        go_end0
        exact ⟨rfl, hkp.out.weak (fun x _ h => ⟨⟨_, rfl, h.symm⟩, by omega⟩)⟩
  · intro hgr v w1 hown hgrow
    have hb1 : Below w.heap.size w w1 := below_grown (below_alloc w _) (by simp) hgrow (fun k hk => by cases hk)
    have hown2 : ∃ g2 c2, v = .slice (some ⟨g2, 0, none⟩) (l.length + 1) c2 ∧ w.heap.size ≤ g2 ∧ CellsU w1 g2 (l.length + 1) := by
      obtain ⟨bo, c2, hv, ho⟩ := owned_bytes (l := l ++ [99]) (by rw [← bytV_append]; exact hown) (by simp)
      obtain ⟨g2, rfl, hg2, -⟩ := own_form ho (by simp)
      have := CellsU.own ho
      simp only [List.length_append, List.length_cons, List.length_nil] at this hv
      exact ⟨g2, c2, hv, by first | omega | (simp only [World.alloc, Array.size_push] at hg2; omega), this⟩
    obtain ⟨g2, c2, rfl, hg2, hcu2⟩ := hown2
    have Hb1 := Lib.hid hb1
    have Hcu2 := Lib.hid hcu2
    clear hown hgrow hb1 hcu2 Hcu Hrow0 Hsp
    go_wp2_with fail
    go_loopw [3] (fun i wr => ∃ (k : Nat), i = .int .i64 k ∧ k ≤ l.length + 1 ∧ Hid (CellsU wr g2 (l.length + 1)) ∧ Hid (Below w.heap.size w wr)) (fun i _ => l.length + 1 - (intOf i).toNat)
    case atStart => exact ⟨0, rfl, by omega, Hcu2, Hb1⟩
    case round =>
      obtain ⟨k, rfl, hk, ho, hbp⟩ := hrel
      by_cases hlt : k < l.length + 1
      · obtain ⟨⟨d, hc⟩, hf⟩ := ho.out k hlt
        have hsz := hbp.out.size
        go_wp2_with fail
        go_roundw
        case rel => exact ⟨k + 1, by go_num, by omega, ho.out.set k 98, hbp.out.setCell hg2 _⟩
        case measure => simp [intOf]; omega
      · go_wp2_with fail
        go_end0
        exact ⟨rfl, keeps_same hbp.out _⟩
end Go.Proofs.Ytofkjogjnhnchaa
