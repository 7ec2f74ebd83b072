/- The contracts of pending, Contains, find. -/
import Derived.Test.YtobnibdeimiinaaZn
namespace Go.Proofs.Ytobnibdeimiinaa
open Go.RowKit

theorem pendN_take (k : Int) (l : List Zn) (i : Nat) (h : i < l.length) : pendN k (l.take (i + 1)) = pendN k (l.take i) + if l[i].pend = k then 1 else 0 := by
  rw [List.take_succ_eq_append_getElem h, pendN_append, pendN_cons]
  simp [pendN]
theorem pendN_le (k : Int) (l : List Zn) : pendN k l ≤ l.length := List.length_filter_le _ _
/-- The zones stand in w, which grew out of W. -/
structure ZnAt (w : World) (g : Nat) (l : List Zn) : Prop where
  lt : g < w.heap.size
  cell : ∀ i, (h : i < l.length) → ∀ j v, (znV l[i])[j]? = some v → w.cell? ⟨g, i * 9 + j, none⟩ = some v
theorem ZnAt.grow {w w' : World} {g : Nat} {l : List Zn} (h : ZnAt w g l) (b : Below w.heap.size w w') : ZnAt w' g l :=
  ⟨Nat.lt_of_lt_of_le h.lt b.size, fun i hi j v hv => (b.cell (p := ⟨g, _, none⟩) h.lt).trans (h.cell i hi j v hv)⟩
theorem OwnZ.at {w : World} {base g cap : Nat} {l : List Zn} (h : OwnZ w base g cap l) : ZnAt w g l := ⟨h.facts.2.1, fun i hi j v hv => h.cell i hi j v hv⟩
theorem ZnAt.nine {w : World} {g : Nat} {l : List Zn} (h : ZnAt w g l) (i : Nat) (hi : i < l.length) (z : Zn) (hz : z = l[i]) : w.cell? ⟨g, i * 9, none⟩ = some (.int .i64 z.id) ∧ w.cell? ⟨g, i * 9 + 1, none⟩ = some (.string z.fr) ∧ w.cell? ⟨g, i * 9 + 2, none⟩ = some (.string z.to) ∧ w.cell? ⟨g, i * 9 + 3, none⟩ = some (.int .i64 z.owner) ∧ w.cell? ⟨g, i * 9 + 4, none⟩ = some (.int .i64 z.epoch) ∧ w.cell? ⟨g, i * 9 + 5, none⟩ = some (.int .i64 z.pend) ∧ w.cell? ⟨g, i * 9 + 6, none⟩ = some (.int .i64 z.tt) ∧ w.cell? ⟨g, i * 9 + 7, none⟩ = some (.string z.key) ∧ w.cell? ⟨g, i * 9 + 8, none⟩ = some (.int .i64 z.nw) := by
  subst hz
  exact ⟨h.cell i hi 0 _ rfl, h.cell i hi 1 _ rfl, h.cell i hi 2 _ rfl, h.cell i hi 3 _ rfl, h.cell i hi 4 _ rfl, h.cell i hi 5 _ rfl, h.cell i hi 6 _ rfl, h.cell i hi 7 _ rfl, h.cell i hi 8 _ rfl⟩
set_option maxRecDepth 20000 in
set_option maxHeartbeats 2000000 in
theorem pending_any {ty : TypeId} {base p g zc : Nat} {m : Mp} {ho : Option Addr} {hl hc : Nat} {w : World} (h : (thDir ty base p g zc m ho hl hc).T w) (hm : m.zs.length ≤ 1000) (k : Int) :
    Calls Try.prog 76 #[.pointer (some ⟨p, 0, none⟩), .int .i64 k] w fun e w' => e = .returned (.int .i64 (pendN k m.zs : Nat)) ∧ Below w.heap.size w w' := by
  obtain ⟨hp, c0, c1, c2, c3, hf⟩ := dir_cells h
  have Hz := Lib.hid h.2.1.at
  obtain ⟨l, hL⟩ : ∃ l, l = m.zs := ⟨_, rfl⟩
  rw [← hL] at Hz c2 hm ⊢
  clear h hf c0 c1 c3 hL
  go_enter Try.func76, Try.ntmps76
  go_wp2_with fail
  go_loopw [5, 14] (fun s5 s14 wr => ∃ i n : Nat, s14 = .int .i64 i ∧ s5 = .int .i64 n ∧ i ≤ l.length ∧ n ≤ i ∧ Hid (n = pendN k (l.take i)) ∧ Below w.heap.size w wr) (fun _ s14 _ => l.length - (intOf s14).toNat)
  case atStart => exact ⟨0, 0, rfl, rfl, by omega, by omega, by simp [Hid, pendN], Below.refl _ _⟩
  case round =>
    obtain ⟨i, n, rfl, rfl, hi, hni, hn, wr_b⟩ := hrel
    by_cases hlt : i < l.length
    · obtain ⟨z, hz⟩ : ∃ z, z = l[i] := ⟨_, rfl⟩
      obtain ⟨d0, d1, d2, d3, d4, d5, d6, d7, d8⟩ := (Hz.out.grow wr_b).nine i hlt z hz
      have hs := wr_b.size
      have hpt := pendN_take k l i hlt
      rw [← hz] at hpt
      have Hpt := Lib.hid hpt
      clear hpt hz
      by_cases hk : z.pend = k
      · have hkb : (z.pend == k) = true := by rw [beq_iff_eq]; exact hk
        have Hk := Lib.hid hk
        clear hk
        go_wp2_with fail
        go_roundw
        case rel => exact ⟨i + 1, n + 1, by go_num, by go_num, by omega, by omega, by rw [Hid, Hpt.out, if_pos Hk.out, ← hn.out], (by repeat (first | with_reducible exact Below.refl _ _ | with_reducible assumption | with_reducible refine Below.drew ?_ | with_reducible refine below_drawn ?_ | with_reducible refine Below.alloc ?_ (by first | omega | (simp; done) | (simp; omega) | (simp at *; omega)) _ | with_reducible refine Below.setCell ?_ (by first | omega | (simp; done) | (simp; omega) | (simp at *; omega)) _ | with_reducible refine Below.trans ?_ (Below.mono (by assumption) (by first | omega | (simp; done) | (simp; omega) | (simp at *; omega)))))⟩
        case measure => simp [intOf]; omega
      · have hkb : (z.pend == k) = false := by rw [beq_eq_false_iff_ne]; exact hk
        have Hk := Lib.hid hk
        clear hk
        go_wp2_with fail
        go_roundw
        case rel => exact ⟨i + 1, n, by go_num, rfl, by omega, by omega, by rw [Hid, Hpt.out, if_neg Hk.out, ← hn.out]; rfl, (by repeat (first | with_reducible exact Below.refl _ _ | with_reducible assumption | with_reducible refine Below.drew ?_ | with_reducible refine below_drawn ?_ | with_reducible refine Below.alloc ?_ (by first | omega | (simp; done) | (simp; omega) | (simp at *; omega)) _ | with_reducible refine Below.setCell ?_ (by first | omega | (simp; done) | (simp; omega) | (simp at *; omega)) _ | with_reducible refine Below.trans ?_ (Below.mono (by assumption) (by first | omega | (simp; done) | (simp; omega) | (simp at *; omega)))))⟩
        case measure => simp [intOf]; omega
    · go_wp2_with fail
      go_ret
      exact ⟨by rw [hn.out, List.take_of_length_le (by omega)]; rfl, wr_b⟩
end Go.Proofs.Ytobnibdeimiinaa
