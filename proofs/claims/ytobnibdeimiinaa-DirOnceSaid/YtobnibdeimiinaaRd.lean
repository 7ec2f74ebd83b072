/- Texts put together: Rf, ROwn. -/
import Derived.Test.YtobnibdeimiinaaDOwn

/- The document's small functions: find, in, pending, free. -/
namespace Go.Proofs.Ytobnibdeimiinaa
open Go.RowKit

set_option maxRecDepth 20000 in
set_option maxHeartbeats 2000000 in
theorem rfind_any {g zc : Nat} {l : List Zn} {w : World} (h : ZnAt w g l) (hm : l.length ≤ 1000) (id : Int) :
    Calls Try.prog 47 #[.slice (some ⟨g, 0, none⟩) l.length zc, .int .i64 id] w fun e w' => e = .returned (.int .i64 (fz l id)) ∧ Below w.heap.size w w' := by
  have Hz := Lib.hid h
  clear h
  go_enter Try.func47, Try.ntmps47
  go_wp2_with fail
  go_loopw [5] (fun s wr => ∃ i : Nat, s = .int .i64 i ∧ i ≤ l.length ∧ Hid (∀ j (hj : j < l.length), j < i → (l[j].id == id) = false) ∧ Below w.heap.size w wr) (fun s _ => l.length - (intOf s).toNat)
  case atStart => exact ⟨0, rfl, by omega, fun j _ hj => by omega, Below.refl _ _⟩
  case round =>
    obtain ⟨i, rfl, hi, hne, wr_b⟩ := hrel
    by_cases hlt : i < l.length
    · obtain ⟨z, hz⟩ : ∃ z, z = l[i] := ⟨_, rfl⟩
      obtain ⟨d0, d1, d2, d3, d4, d5, d6, d7, d8⟩ := (Hz.out.grow wr_b).nine i hlt z hz
      have Hv := Lib.hid hz
      clear hz
      by_cases hk : z.id = id
      · have hkb : (z.id == id) = true := by rw [beq_iff_eq]; exact hk
        have Hkb := Lib.hid hkb
        clear hk
        go_wp2_with fail
        go_ret
        refine ⟨?_, wr_b⟩
        rw [fz, findZ, findIdx_at hlt (by rw [← Hv.out]; exact Hkb.out) hne.out]
        rfl
      · have hkb : (z.id == id) = false := by rw [beq_eq_false_iff_ne]; exact hk
        have Hkb := Lib.hid hkb
        clear hk
        go_wp2_with fail
        go_roundw
        case rel => exact ⟨i + 1, by go_num, by omega, fun j hj hji => by
          by_cases h : j = i
          · subst h; rw [← Hv.out]; exact Hkb.out
          · exact hne.out j hj (by omega), wr_b⟩
        case measure => simp [intOf]; omega
    · go_wp2_with fail
      go_ret
      refine ⟨?_, wr_b⟩
      rw [fz, findZ, findIdx_none (fun j hj => hne.out j hj (by omega))]
      rfl
set_option maxRecDepth 20000 in
set_option maxHeartbeats 2000000 in
theorem rin_any (ao : Option Addr) (hc : Nat) (l : List Int) (n : Int) (w : World) (h : IAtD w ao l) (hm : l.length ≤ 1000) :
    Calls Try.prog 86 #[.slice ao l.length hc, .int .i64 n] w fun e w' => e = .returned (.bool (decide (n ∈ l))) ∧ Below w.heap.size w w' := by
  have H := Lib.hid h
  clear h
  go_enter Try.func86, Try.ntmps86
  go_wp2_with fail
  go_loopw [5] (fun s wr => ∃ i : Nat, s = .int .i64 i ∧ i ≤ l.length ∧ Hid (∀ j (hj : j < l.length), j < i → l[j] ≠ n) ∧ Below w.heap.size w wr) (fun s _ => l.length - (intOf s).toNat)
  case atStart => exact ⟨0, rfl, by omega, fun j _ hj => by omega, Below.refl _ _⟩
  case round =>
    obtain ⟨i, rfl, hi, hne, wr_b⟩ := hrel
    by_cases hlt : i < l.length
    · obtain ⟨b, off, rfl, hb, hcell⟩ := H.out (by omega)
      have d0 := (wr_b.cell (p := ⟨b, off + i, none⟩) hb).trans (hcell i hlt)
      have hs := wr_b.size
      obtain ⟨v, hv⟩ : ∃ v, v = l[i] := ⟨_, rfl⟩
      rw [← hv] at d0
      have Hv := Lib.hid hv
      clear hcell hv
      by_cases hk : v = n
      · have hkb : (v == n) = true := by rw [beq_iff_eq]; exact hk
        have Hk := Lib.hid hk
        clear hk
        go_wp2_with fail
        go_ret
        refine ⟨?_, wr_b⟩
        rw [decide_eq_true (by rw [← Hk.out, Hv.out]; exact List.getElem_mem hlt)]
        rfl
      · have hkb : (v == n) = false := by rw [beq_eq_false_iff_ne]; exact hk
        have Hk := Lib.hid hk
        clear hk
        go_wp2_with fail
        go_roundw
        case rel => exact ⟨i + 1, by go_num, by omega, fun j hj hji => by
          by_cases h : j = i
          · subst h; rw [← Hv.out]; exact Hk.out
          · exact hne.out j hj (by omega), wr_b⟩
        case measure => simp [intOf]; omega
    · go_wp2_with fail
      go_ret
      refine ⟨?_, wr_b⟩
      rw [decide_eq_false (fun hin => by
        obtain ⟨j, hj, e⟩ := List.mem_iff_getElem.1 hin
        exact hne.out j hj (by omega) e)]
      rfl
set_option maxRecDepth 20000 in
set_option maxHeartbeats 2000000 in
theorem rpending_any {ty : TypeId} {base p g zc : Nat} {m : Mp} {ho : Option Addr} {hl hc : Nat} {w : World} (h : (thDir ty base p g zc m ho hl hc).T w) (hm : m.zs.length ≤ 1000) (k : Int) :
    Calls Try.prog 85 #[.pointer (some ⟨p, 0, none⟩), .int .i64 k] w fun e w' => e = .returned (.int .i64 (pendN k m.zs : Nat)) ∧ Below w.heap.size w w' := by
  obtain ⟨hp, c0, c1, c2, c3, hf⟩ := dir_cells h
  have Hz := Lib.hid h.2.1.at
  obtain ⟨l, hL⟩ : ∃ l, l = m.zs := ⟨_, rfl⟩
  rw [← hL] at Hz c2 hm ⊢
  clear h hf c0 c1 c3 hL
  go_enter Try.func85, Try.ntmps85
  go_wp2_with fail
  go_loopw [5, 6] (fun s5 s6 wr => ∃ i n : Nat, s6 = .int .i64 i ∧ s5 = .int .i64 n ∧ i ≤ l.length ∧ n ≤ i ∧ Hid (n = pendN k (l.take i)) ∧ Below w.heap.size w wr) (fun _ s6 _ => l.length - (intOf s6).toNat)
  case atStart => exact ⟨0, 0, rfl, rfl, by omega, by omega, by simp [Hid, pendN], Below.refl _ _⟩
  case round =>
    obtain ⟨i, n, rfl, rfl, hi, hni, hn, wr_b⟩ := hrel
    have cr := (wr_b.cell (p := ⟨p, 2, none⟩) hp).trans c2
    by_cases hlt : i < l.length
    · obtain ⟨z, hz⟩ : ∃ z, z = l[i] := ⟨_, rfl⟩
      obtain ⟨d0, d1, d2, d3, d4, d5, d6, d7, d8⟩ := (Hz.out.grow wr_b).nine i hlt z hz
      have hpt := pendN_take k l i hlt
      rw [← hz] at hpt
      have Hpt := Lib.hid hpt
      clear hpt hz
      by_cases hk : z.pend = k
      · have hkb : (z.pend == k) = true := by rw [beq_iff_eq]; exact hk
        have Hk := Lib.hid hk
        clear hk
        go_wp2_with fail
        go_roundw
        case rel => exact ⟨i + 1, n + 1, by go_num, by go_num, by omega, by omega, by rw [Hid, Hpt.out, if_pos Hk.out, ← hn.out], wr_b⟩
        case measure => simp [intOf]; omega
      · have hkb : (z.pend == k) = false := by rw [beq_eq_false_iff_ne]; exact hk
        have Hk := Lib.hid hk
        clear hk
        go_wp2_with fail
        go_roundw
        case rel => exact ⟨i + 1, n, by go_num, rfl, by omega, by omega, by rw [Hid, Hpt.out, if_neg Hk.out, ← hn.out]; rfl, wr_b⟩
        case measure => simp [intOf]; omega
    · go_wp2_with fail
      go_ret
      exact ⟨by rw [hn.out, List.take_of_length_le (by omega)]; rfl, wr_b⟩
set_option maxHeartbeats 1000000 in
theorem free_any (z : Zn) (w : World) : Calls Try.prog 88 #[.agg #[.int .i64 z.id, .string z.fr, .string z.to, .int .i64 z.owner, .int .i64 z.epoch, .int .i64 z.pend, .int .i64 z.tt, .string z.key, .int .i64 z.nw]] w fun en w' => en = .returned (.agg #[.int .i64 z.id, .string z.fr, .string z.to, .int .i64 z.owner, .int .i64 z.epoch, .int .i64 0, .int .i64 0, .string ⟨#[]⟩, .int .i64 0]) ∧ Below w.heap.size w w' := by
  go_enter Try.func88, Try.ntmps88
  go_wp2_with fail
  exact bodyPost_ret (v := .agg #[.int .i64 z.id, .string z.fr, .string z.to, .int .i64 z.owner, .int .i64 z.epoch, .int .i64 0, .int .i64 0, .string ⟨#[]⟩, .int .i64 0]) (by simp only [results, Try.results88]; go_simp) rfl ⟨rfl, (by repeat (first | with_reducible exact Below.refl _ _ | with_reducible assumption | with_reducible refine Below.drew ?_ | with_reducible refine below_drawn ?_ | with_reducible refine Below.alloc ?_ (by first | omega | (simp; done) | (simp; omega) | (simp at *; omega)) _ | with_reducible refine Below.setCell ?_ (by first | omega | (simp; done) | (simp; omega) | (simp at *; omega)) _ | with_reducible refine Below.trans ?_ (Below.mono (by assumption) (by first | omega | (simp; done) | (simp; omega) | (simp at *; omega)))))⟩
end Go.Proofs.Ytobnibdeimiinaa

/- The document's Own, Find. -/
namespace Go.Proofs.Ytobnibdeimiinaa
open Go.RowKit

set_option maxRecDepth 20000 in
set_option maxHeartbeats 2000000 in
theorem rown_any {g zc : Nat} {l : List Zn} {w : World} (h : ZnAt w g l) (hp : 0 < l.length) (hm : l.length ≤ 1000) (v n : Int) :
    Calls Try.prog 49 #[.agg #[.int .i64 v, .int .i64 n, .slice (some ⟨g, 0, none⟩) l.length zc]] w (FreshM w v n l) := by
  obtain ⟨i0, hi, hz0, hz1, hz2⟩ := info_parts zoneInfo
  have Ha := Lib.hid h
  obtain ⟨w0, hw0⟩ : ∃ w0, w0 = ((w.alloc (.cells #[.int .i64 v, .int .i64 n, .slice (some ⟨g, 0, none⟩) l.length zc] 30)).alloc (.cells #[.int .i64 0, .int .i64 0, .slice none 0 0] 30)) := ⟨_, rfl⟩
  have b0 : Below w.heap.size w w0 := by rw [hw0]; exact (by repeat (first | with_reducible exact Below.refl _ _ | with_reducible assumption | with_reducible refine Below.drew ?_ | with_reducible refine below_drawn ?_ | with_reducible refine Below.alloc ?_ (by first | omega | (simp; done) | (simp; omega) | (simp at *; omega)) _ | with_reducible refine Below.setCell ?_ (by first | omega | (simp; done) | (simp; omega) | (simp at *; omega)) _ | with_reducible refine Below.trans ?_ (Below.mono (by assumption) (by first | omega | (simp; done) | (simp; omega) | (simp at *; omega)))))
  have s0 : w0.heap.size = w.heap.size + 2 := by rw [hw0]; simp
  have c0 : w0.cell? ⟨w.heap.size, 0, none⟩ = some (.int .i64 v) := by rw [hw0]; go_simp
  have c1 : w0.cell? ⟨w.heap.size, 1, none⟩ = some (.int .i64 n) := by rw [hw0]; go_simp
  have c2 : w0.cell? ⟨w.heap.size, 2, none⟩ = some (.slice (some ⟨g, 0, none⟩) l.length zc) := by rw [hw0]; go_simp
  have f2 : w0.frozen? ⟨w.heap.size, 2, none⟩ = false := by rw [hw0]; go_simp
  have r0 : w0.cell? ⟨w.heap.size + 1, 0, none⟩ = some (.int .i64 0) := by rw [hw0]; go_simp
  have r1 : w0.cell? ⟨w.heap.size + 1, 1, none⟩ = some (.int .i64 0) := by rw [hw0]; go_simp
  have r2 : w0.cell? ⟨w.heap.size + 1, 2, none⟩ = some (.slice none 0 0) := by rw [hw0]; go_simp
  have q0 : w0.frozen? ⟨w.heap.size + 1, 0, none⟩ = false := by rw [hw0]; go_simp
  have q1 : w0.frozen? ⟨w.heap.size + 1, 1, none⟩ = false := by rw [hw0]; go_simp
  have q2 : w0.frozen? ⟨w.heap.size + 1, 2, none⟩ = false := by rw [hw0]; go_simp
  have Hs0 := Lib.hid s0
  have Hb0 := Lib.hid b0
  have Hw0 := Lib.hid hw0
  clear h s0 b0 hw0
  go_enter Try.func49, Try.ntmps49
  go_wp2_with (at_builtin; go_must (refine wpList_append_any _ rfl (.tmp 3) (.tmp 5) 28 rfl (w.heap.size + 2) 39 i0 (.agg zero9) 9 96 Try.underlying28 hi hz0 hz1 hz2 rfl (by decide) _ 0 [] rfl (owns_emptyAt _ (w.heap.size + 1 + 1) (by simp) (w.heap.size + 2) (Nat.le_refl _) 39 9) (some ⟨g, 0, none⟩) l.length zc (znR l) rfl (fun h => by cases h) (znR_length l) (Ha.out.cells _ (by repeat (first | with_reducible exact Below.refl _ _ | with_reducible assumption | with_reducible refine Below.drew ?_ | with_reducible refine below_drawn ?_ | with_reducible refine Below.alloc ?_ (by first | omega | (simp; done) | (simp; omega) | (simp at *; omega)) _ | with_reducible refine Below.setCell ?_ (by first | omega | (simp; done) | (simp; omega) | (simp at *; omega)) _ | with_reducible refine Below.trans ?_ (Below.mono (by assumption) (by first | omega | (simp; done) | (simp; omega) | (simp at *; omega)))))) (znR_one l) (by unfold maxLen; omega) (by omega) (by simp) ?_))
  intro vv w1 hown hgrow
  rw [← Hw0.out] at hgrow
  have hb : Below (w.heap.size + 2) w0 w1 := below_grown ((Below.refl _ _).alloc (by have := Hs0.out; omega) _) (by have := Hs0.out; simp; omega) hgrow (fun k hk => by simp [Value.ownBlock] at hk; omega)
  obtain ⟨bo, cc, hv, ho⟩ := ownedZ (l := l) (by simpa using hown) (Nat.zero_add _) hp
  have Ho := Lib.hid ho
  have hle := hb.size
  obtain ⟨xc, xf⟩ := bcellB hb
  have y0 := (xc w.heap.size 0 (by omega)).trans c0
  have y1 := (xc w.heap.size 1 (by omega)).trans c1
  have y2 := (xc w.heap.size 2 (by omega)).trans c2
  have yf := (xf w.heap.size 2 (by omega)).trans f2
  have z0' := (xc (w.heap.size + 1) 0 (by omega)).trans r0
  have z1' := (xc (w.heap.size + 1) 1 (by omega)).trans r1
  have z2' := (xc (w.heap.size + 1) 2 (by omega)).trans r2
  have zf0 := (xf (w.heap.size + 1) 0 (by omega)).trans q0
  have zf1 := (xf (w.heap.size + 1) 1 (by omega)).trans q1
  have zf2 := (xf (w.heap.size + 1) 2 (by omega)).trans q2
  have hn1 : bo ≠ w.heap.size := by have := ho.facts.1; omega
  have hn2 : bo ≠ w.heap.size + 1 := by have := ho.facts.1; omega
  have w1_b : Below w.heap.size w w1 := Hb0.out.trans (hb.mono (by omega))
  clear hown hgrow ho hb xc xf c0 c1 c2 f2 r0 r1 r2 q0 q1 q2 Hw0 Hb0
  rw [hv]
  clear hv vv
  go_wp2_with fail
  refine bodyPost_ret (v := .agg #[.int .i64 v, .int .i64 n, .slice (some ⟨bo, 0, none⟩) l.length cc]) (by simp only [results, Try.results49]; go_simp) rfl ⟨bo, cc, rfl, ?_, ?_⟩
  · exact ((((Ho.out.weak (by omega)).far hn1 _ _).far hn2 _ _).far hn2 _ _).far hn2 _ _
  · exact (((w1_b.setCell (Nat.le_refl _) _).setCell (Nat.le_succ _) _).setCell (Nat.le_succ _) _).setCell (Nat.le_succ _) _
end Go.Proofs.Ytobnibdeimiinaa
