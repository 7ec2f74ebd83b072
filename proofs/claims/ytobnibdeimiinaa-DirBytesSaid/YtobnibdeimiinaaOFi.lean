/- Zones anywhere in memory: the contracts of find. -/
import Derived.Test.YtobnibdeimiinaaZw
import Derived.Test.YtobnibdeimiinaaSq
namespace Go.Proofs.Ytobnibdeimiinaa.O
open Go.RowKit

/-- Zones stand in w, from an offset of a block on. -/
structure ZnO (w : World) (g o : Nat) (l : List Zn) : Prop where
  lt : g < w.heap.size
  cell : ∀ i, (h : i < l.length) → ∀ j v, (znV l[i])[j]? = some v → w.cell? ⟨g, o + i * 9 + j, none⟩ = some v
theorem ZnO.grow {w w' : World} {g o : Nat} {l : List Zn} (h : ZnO w g o l) (b : Below w.heap.size w w') : ZnO w' g o l :=
  ⟨Nat.lt_of_lt_of_le h.lt b.size, fun i hi j v hv => (b.cell (p := ⟨g, _, none⟩) h.lt).trans (h.cell i hi j v hv)⟩
theorem _root_.Go.Proofs.Ytobnibdeimiinaa.OwnZ.atO {w : World} {base g cap : Nat} {l : List Zn} (h : OwnZ w base g cap l) : ZnO w g 0 l := ⟨h.facts.2.1, fun i hi j v hv => by rw [Nat.zero_add]; exact h.cell i hi j v hv⟩
theorem ZnO.nine {w : World} {g o : Nat} {l : List Zn} (h : ZnO w g o l) (i : Nat) (hi : i < l.length) (z : Zn) (hz : z = l[i]) : w.cell? ⟨g, o + i * 9, none⟩ = some (.int .i64 z.id) ∧ w.cell? ⟨g, o + i * 9 + 1, none⟩ = some (.string z.fr) ∧ w.cell? ⟨g, o + i * 9 + 2, none⟩ = some (.string z.to) ∧ w.cell? ⟨g, o + i * 9 + 3, none⟩ = some (.int .i64 z.owner) ∧ w.cell? ⟨g, o + i * 9 + 4, none⟩ = some (.int .i64 z.epoch) ∧ w.cell? ⟨g, o + i * 9 + 5, none⟩ = some (.int .i64 z.pend) ∧ w.cell? ⟨g, o + i * 9 + 6, none⟩ = some (.int .i64 z.tt) ∧ w.cell? ⟨g, o + i * 9 + 7, none⟩ = some (.string z.key) ∧ w.cell? ⟨g, o + i * 9 + 8, none⟩ = some (.int .i64 z.nw) := by
  subst hz
  exact ⟨h.cell i hi 0 _ rfl, h.cell i hi 1 _ rfl, h.cell i hi 2 _ rfl, h.cell i hi 3 _ rfl, h.cell i hi 4 _ rfl, h.cell i hi 5 _ rfl, h.cell i hi 6 _ rfl, h.cell i hi 7 _ rfl, h.cell i hi 8 _ rfl⟩
theorem findIdx_none {α : Type} {p : α → Bool} {l : List α} (h : ∀ j (hj : j < l.length), p l[j] = false) : l.findIdx? p = none := by
  rw [List.findIdx?_eq_none_iff]
  intro x hx
  obtain ⟨j, hj, rfl⟩ := List.getElem_of_mem hx
  exact h j hj
theorem findIdx_at {α : Type} {p : α → Bool} {l : List α} {i : Nat} (hi : i < l.length) (hp : p l[i] = true) (h : ∀ j (hj : j < l.length), j < i → p l[j] = false) : l.findIdx? p = some i := by
  rw [List.findIdx?_eq_some_iff_getElem]
  exact ⟨hi, hp, fun j hj => by rw [h j (by omega) hj]; decide⟩
def fz (l : List Zn) (id : Int) : Int := match findZ l id with | none => -1 | some i => i
set_option maxHeartbeats 1000000 in
theorem isId_any (z : Zn) (k : Nat) (id : Int) (w : World) (hk : k < w.heap.size) (hc : w.cell? ⟨k, 0, none⟩ = some (.int .i64 id)) :
    Calls Try.prog 74 #[.agg #[.int .i64 z.id, .string z.fr, .string z.to, .int .i64 z.owner, .int .i64 z.epoch, .int .i64 z.pend, .int .i64 z.tt, .string z.key, .int .i64 z.nw], .pointer (some ⟨k, 0, none⟩)] w fun e w' => e = .returned (.bool (z.id == id)) ∧ Below w.heap.size w w' := by
  go_enter Try.func74, Try.ntmps74
  go_wp2_with fail
  go_ret
  exact ⟨rfl, (by repeat (first | with_reducible exact Below.refl _ _ | with_reducible assumption | with_reducible refine Below.drew ?_ | with_reducible refine below_drawn ?_ | with_reducible refine Below.alloc ?_ (by first | omega | (simp; done) | (simp; omega) | (simp at *; omega)) _ | with_reducible refine Below.setCell ?_ (by first | omega | (simp; done) | (simp; omega) | (simp at *; omega)) _ | with_reducible refine Below.trans ?_ (Below.mono (by assumption) (by first | omega | (simp; done) | (simp; omega) | (simp at *; omega)))))⟩
set_option maxRecDepth 20000 in
set_option maxHeartbeats 2000000 in
theorem indexFunc_any {g o zc : Nat} {l : List Zn} {w : World} (h : ZnO w g o l) (hm : l.length ≤ 1000) (id : Int) (k : Nat) (hk : k < w.heap.size) (hc : w.cell? ⟨k, 0, none⟩ = some (.int .i64 id)) :
    Calls Try.prog 73 #[.slice (some ⟨g, o, none⟩) l.length zc, .func (.func 74) #[] #[.pointer (some ⟨k, 0, none⟩)]] w fun e w' => e = .returned (.int .i64 (fz l id)) ∧ Below w.heap.size w w' := by
  have Hz := Lib.hid h
  clear h
  go_enter Try.func73, Try.ntmps73
  go_wp2_with fail
  go_loopw [8] (fun s wr => ∃ i : Nat, s = .int .i64 i ∧ i ≤ l.length ∧ Hid (∀ j (hj : j < l.length), j < i → (l[j].id == id) = false) ∧ Below w.heap.size w wr) (fun s _ => l.length - (intOf s).toNat)
  case atStart => exact ⟨0, rfl, by omega, fun j _ hj => by omega, Below.refl _ _⟩
  case round =>
    obtain ⟨i, rfl, hi, hne, wr_b⟩ := hrel
    by_cases hlt : i < l.length
    · obtain ⟨z, hz⟩ : ∃ z, z = l[i] := ⟨_, rfl⟩
      obtain ⟨d0, d1, d2, d3, d4, d5, d6, d7, d8⟩ := (Hz.out.grow wr_b).nine i hlt z hz
      have hs := wr_b.size
      have hc2 := (wr_b.cell (p := ⟨k, 0, none⟩) hk).trans hc
      have Hv := Lib.hid hz
      clear hz
      go_wp2_with fail
      refine (isId_any z k id _ (by omega) hc2).mono ?_
      by_cases hk : z.id = id
      · have hkb : (z.id == id) = true := by rw [beq_iff_eq]; exact hk
        rw [hkb]
        rintro e w1 ⟨rfl, w1_b⟩
        clear hk
        go_wp2_with fail
        go_ret
        refine ⟨?_, (by repeat (first | with_reducible exact Below.refl _ _ | with_reducible assumption | with_reducible refine Below.drew ?_ | with_reducible refine below_drawn ?_ | with_reducible refine Below.alloc ?_ (by first | omega | (simp; done) | (simp; omega) | (simp at *; omega)) _ | with_reducible refine Below.setCell ?_ (by first | omega | (simp; done) | (simp; omega) | (simp at *; omega)) _ | with_reducible refine Below.trans ?_ (Below.mono (by assumption) (by first | omega | (simp; done) | (simp; omega) | (simp at *; omega)))))⟩
        rw [fz, findZ, findIdx_at hlt (by rw [← Hv.out]; exact hkb) hne.out]
        rfl
      · have hkb : (z.id == id) = false := by rw [beq_eq_false_iff_ne]; exact hk
        rw [hkb]
        rintro e w1 ⟨rfl, w1_b⟩
        clear hk
        go_wp2_with fail
        go_roundw
        case rel => exact ⟨i + 1, by go_num, by omega, fun j hj hji => by
          by_cases h : j = i
          · subst h; rw [← Hv.out]; exact hkb
          · exact hne.out j hj (by omega), (by repeat (first | with_reducible exact Below.refl _ _ | with_reducible assumption | with_reducible refine Below.drew ?_ | with_reducible refine below_drawn ?_ | with_reducible refine Below.alloc ?_ (by first | omega | (simp; done) | (simp; omega) | (simp at *; omega)) _ | with_reducible refine Below.setCell ?_ (by first | omega | (simp; done) | (simp; omega) | (simp at *; omega)) _ | with_reducible refine Below.trans ?_ (Below.mono (by assumption) (by first | omega | (simp; done) | (simp; omega) | (simp at *; omega)))))⟩
        case measure => simp [intOf]; omega
    · go_wp2_with fail
      go_ret
      refine ⟨?_, wr_b⟩
      rw [fz, findZ, findIdx_none (fun j hj => hne.out j hj (by omega))]
      rfl
set_option maxRecDepth 20000 in
set_option maxHeartbeats 2000000 in
theorem find_any {g o zc : Nat} {l : List Zn} {w : World} (h : ZnO w g o l) (hm : l.length ≤ 1000) (ver next id : Int) :
    Calls Try.prog 38 #[.agg #[.int .i64 ver, .int .i64 next, .slice (some ⟨g, o, none⟩) l.length zc], .int .i64 id] w fun e w' => e = .returned (.int .i64 (fz l id)) ∧ Below w.heap.size w w' := by
  have Hz := Lib.hid h
  clear h
  go_enter Try.func38, Try.ntmps38
  go_wp2_with fail
  (refine calls_name fun wa hwa => ?_; have wa_s0 : w.heap.size + 1 < wa.heap.size := (by rw [hwa]; first | omega | (simp; done) | (simp; omega)); have wa_c0 : wa.cell? ⟨w.heap.size + 1, 0, none⟩ = some (.int .i64 id) := (by rw [hwa]; go_simp); have wa_b : Below w.heap.size w wa := (by rw [hwa]; exact (by repeat (first | with_reducible exact Below.refl _ _ | with_reducible assumption | with_reducible refine Below.drew ?_ | with_reducible refine below_drawn ?_ | with_reducible refine Below.alloc ?_ (by first | omega | (simp; done) | (simp; omega) | (simp at *; omega)) _ | with_reducible refine Below.setCell ?_ (by first | omega | (simp; done) | (simp; omega) | (simp at *; omega)) _ | with_reducible refine Below.trans ?_ (Below.mono (by assumption) (by first | omega | (simp; done) | (simp; omega) | (simp at *; omega)))))); clear hwa)
  refine (indexFunc_any (Hz.out.grow wa_b) hm id (w.heap.size + 1) wa_s0 wa_c0).mono ?_
  (rintro e w1 ⟨rfl, w1_h⟩; obtain ⟨w1_hc, w1_hf⟩ := bcell w1_h; have w1_z := w1_h.size; have w1_b := wa_b.trans (w1_h.mono (by have := wa_b.size; omega)); have w1_le := w1_b.size; clear w1_h)
  go_wp2_with fail
  go_ret
  exact ⟨rfl, w1_b⟩
set_option maxRecDepth 20000 in
set_option maxHeartbeats 2000000 in
theorem rfind_any {g o zc : Nat} {l : List Zn} {w : World} (h : ZnO w g o l) (hm : l.length ≤ 1000) (id : Int) :
    Calls Try.prog 47 #[.slice (some ⟨g, o, none⟩) l.length zc, .int .i64 id] w fun e w' => e = .returned (.int .i64 (fz l id)) ∧ Below w.heap.size w w' := by
  have Hz := Lib.hid h
  clear h
  go_enter Try.func47, Try.ntmps47
  go_wp2_with fail
  go_loopw [5] (fun s wr => ∃ i : Nat, s = .int .i64 i ∧ i ≤ l.length ∧ Hid (∀ j (hj : j < l.length), j < i → (l[j].id == id) = false) ∧ Below w.heap.size w wr) (fun s _ => l.length - (intOf s).toNat)
  case atStart => exact ⟨0, rfl, by omega, fun j _ hj => by omega, Below.refl _ _⟩
  case round =>
    obtain ⟨i, rfl, hi, hne, wr_b⟩ := hrel
    by_cases hlt : i < l.length
    · obtain ⟨z, hz⟩ : ∃ z, z = l[i] := ⟨_, rfl⟩
      obtain ⟨d0, d1, d2, d3, d4, d5, d6, d7, d8⟩ := (Hz.out.grow wr_b).nine i hlt z hz
      have Hv := Lib.hid hz
      clear hz
      by_cases hk : z.id = id
      · have hkb : (z.id == id) = true := by rw [beq_iff_eq]; exact hk
        have Hkb := Lib.hid hkb
        clear hk
        go_wp2_with fail
        go_ret
        refine ⟨?_, wr_b⟩
        rw [fz, findZ, findIdx_at hlt (by rw [← Hv.out]; exact Hkb.out) hne.out]
        rfl
      · have hkb : (z.id == id) = false := by rw [beq_eq_false_iff_ne]; exact hk
        have Hkb := Lib.hid hkb
        clear hk
        go_wp2_with fail
        go_roundw
        case rel => exact ⟨i + 1, by go_num, by omega, fun j hj hji => by
          by_cases h : j = i
          · subst h; rw [← Hv.out]; exact Hkb.out
          · exact hne.out j hj (by omega), wr_b⟩
        case measure => simp [intOf]; omega
    · go_wp2_with fail
      go_ret
      refine ⟨?_, wr_b⟩
      rw [fz, findZ, findIdx_none (fun j hj => hne.out j hj (by omega))]
      rfl
end Go.Proofs.Ytobnibdeimiinaa.O
