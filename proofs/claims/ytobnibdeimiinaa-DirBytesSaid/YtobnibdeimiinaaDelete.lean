/- Clear on rows of whatever elements; slices.Delete of one zone. -/
import Derived.Test.YtobnibdeimiinaaInsert
import Derived.Laws.IdiomCopy
import Derived.Deep.MidRow
namespace Go.Proofs.Ytobnibdeimiinaa
open Go.RowKit

theorem zeroCells_size (z : Array Value) (n : Nat) : (Builtin.zeroCells z n).toList.length = n * z.size := by simp [Builtin.zeroCells]
theorem zeroCells_one {z : Array Value} (h1 : ∀ v ∈ z.toList, v.oneCell' = true) (n : Nat) : ∀ v ∈ (Builtin.zeroCells z n).toList, v.oneCell' = true := by
  intro v hv
  simp only [Builtin.zeroCells, Array.toList_map, List.mem_map] at hv
  obtain ⟨i, hi, rfl⟩ := hv
  have hlt : i < n * z.size := by simpa using hi
  have hz : 0 < z.size := by
    rcases Nat.eq_zero_or_pos z.size with h | h
    · rw [h] at hlt; omega
    · exact h
  have hm : i % z.size < z.size := Nat.mod_lt _ hz
  rw [getElem!_pos z _ hm]
  exact h1 _ (by simp)
/-- 'clear(s)', s a slice of n > 0 elements of several cells each. -/
theorem run_clear_rows {P : Program} (w : World) (t e ty : TypeId) (z : Value) (ht : P.underlying t = some (.slice e)) (hv : ∀ w, (zeroValue e).run P w = .ok z w) (h1 : ∀ v ∈ z.cells.toList, v.oneCell' = true) (b o n c : Nat) (hn : 0 < n)
    (hc : ∀ j, j < n * z.cells.size → (w.cell? ⟨b, o + j, none⟩).isSome = true) (hf : ∀ j, j < n * z.cells.size → w.frozen? ⟨b, o + j, none⟩ = false) :
    (Builtin.clear_ #[t] ty #[.slice (some ⟨b, o, none⟩) n c]).run P w = .ok (.tuple #[]) (w.setCells b o (Builtin.zeroCells z.cells n).toList) := by
  have hst := run_storeCells_cells (P := P) b o (Builtin.zeroCells z.cells n).toList 0 w (by simpa using fun j hj => hc j (by simpa [Builtin.zeroCells] using hj)) (by simpa using fun j hj => hf j (by simpa [Builtin.zeroCells] using hj)) (zeroCells_one h1 n)
  simp only [Nat.add_zero] at hst
  obtain ⟨m, rfl⟩ : ∃ m, n = m + 1 := ⟨n - 1, by omega⟩
  simp [Builtin.clear_, run_underlying ht, hv, hst]
/-- The cells of a row whose i-th element is taken out. -/
theorem erase_cells {l : List Zn} {i : Nat} (hi : i < l.length) : znR (l.eraseIdx i) = (znR l).take (i * 9) ++ znR (l.drop (i + 1)) := by
  rw [List.eraseIdx_eq_take_drop_succ, znR_append]
  congr 1
  have e : znR l = znR (l.take i) ++ znR (l.drop i) := by rw [← znR_append, List.take_append_drop]
  rw [e, List.take_left' (by rw [znR_length, List.length_take]; omega)]
theorem zeroZone (w : World) : (zeroValue 39).run Try.prog w = .ok (.agg zero9) w := by kernel_rfl
theorem deleted {w : World} {base g cap i r : Nat} {l : List Zn} (h : w.ownsRow base 39 9 (.slice (some ⟨g, 0, none⟩) l.length cap) l.length (znR l)) (hi : i < l.length) (hr : r + 1 = l.length) :
    ((w.drew.setCells g (i * 9) (znR (l.drop (i + 1)))).setCells g (r * 9) (Builtin.zeroCells zero9 1).toList).ownsRow base 39 9 (.slice (some ⟨g, 0, none⟩) r cap) r (znR (l.eraseIdx i)) ∧ Keeps w ((w.drew.setCells g (i * 9) (znR (l.drop (i + 1)))).setCells g (r * 9) (Builtin.zeroCells zero9 1).toList) (fun x => x = g) := by
  have hcell : ∀ j, j < l.length * 9 → w.drew.cell? ⟨g, j, none⟩ = (znR l)[j]? := fun j hj => h.cellAt j hj
  have hel : (l.eraseIdx i).length = r := by rw [List.length_eraseIdx]; simp only [hi, if_true]; omega
  have hml := znR_length l
  have hdl : (znR (l.drop (i + 1))).length = (r - i) * 9 := by rw [znR_length, List.length_drop]; congr 1; omega
  rcases h.2 with ⟨hv, h0⟩ | ⟨g', c, cur, hv, hb, hh, h1, h2, h3, h4⟩
  · cases hv
  · simp only [Value.slice.injEq, Option.some.injEq, Addr.mk.injEq, and_true, true_and] at hv
    obtain ⟨rfl, rfl⟩ := hv
    have hh' : w.drew.heap[g]? = some (.cells cur 39 (0, 0)) := hh
    obtain ⟨c1, hc1, e1⟩ := block_setCells g 39 (0, 0) (znR (l.drop (i + 1))) (i * 9) _ cur hh'
    obtain ⟨c2, hc2, e2⟩ := block_setCells g 39 (0, 0) (Builtin.zeroCells zero9 1).toList (r * 9) _ c1 hc1
    refine ⟨owns_of_cells hb hc2 (by omega) h2 (by omega) (by rw [znR_length, hel]) ?_, ?_⟩
    · intro j hj
      rw [znR_length, hel] at hj
      rw [World.cell?_setCells_out g _ _ _ _ (fun _ _ => .inl hj)]
      rw [← List.getElem?_eq_getElem]
      rw [erase_cells hi]
      by_cases hji : j < i * 9
      · rw [World.cell?_setCells_out g _ _ _ _ (fun _ _ => .inl hji), hcell j (by omega), List.getElem?_append_left (by rw [List.length_take, hml]; omega), List.getElem?_take_of_lt hji]
      · obtain ⟨k, rfl⟩ : ∃ k, j = i * 9 + k := ⟨j - i * 9, by omega⟩
        rw [World.cell?_setCells_in g _ _ _ (fun q hq => by rw [hdl] at hq; rw [hcell _ (by omega), List.getElem?_eq_getElem (by rw [hml]; omega)]; rfl) k (by rw [hdl]; omega)]
        rw [List.getElem?_append_right (by rw [List.length_take, hml]; omega), List.length_take, hml, Nat.min_eq_left (by omega), show i * 9 + k - i * 9 = k from by omega, List.getElem?_eq_getElem]
    · have k0 : Keeps w w.drew (fun x => x = g) := ⟨rfl, rfl, rfl, Nat.le_refl _, fun _ _ _ => rfl⟩
      exact (k0.trans (keeps_setCellsN _ g _ _) (fun _ h => h) (fun _ _ h => h)).trans (keeps_setCellsN _ g _ _) (fun _ h => h) (fun _ _ h => h)
set_option maxRecDepth 20000 in
set_option maxHeartbeats 4000000 in
theorem delete_any (base g cap : Nat) (l : List Zn) (i : Nat) (w : World) (h : w.ownsRow base 39 9 (.slice (some ⟨g, 0, none⟩) l.length cap) l.length (znR l)) (hi : i < l.length) (hm : l.length ≤ 1000) :
    Calls Try.prog 81 #[.slice (some ⟨g, 0, none⟩) l.length cap, .int .i64 i, .int .i64 ((i : Int) + 1)] w fun e w' => e = .returned (.slice (some ⟨g, 0, none⟩) (l.length - 1 : Nat) cap) ∧ w'.ownsRow base 39 9 (.slice (some ⟨g, 0, none⟩) (l.length - 1) cap) (l.length - 1) (znR (l.eraseIdx i)) ∧ Keeps w w' (fun x => x = g) := by
  obtain ⟨i0, hii, hz0, hz1, hz2⟩ := info_parts zoneInfo
  have H := Lib.hid h
  have hcap : l.length ≤ cap ∧ cap ≤ 9223372036854775807 := by
    rcases h.2 with ⟨hv, h0⟩ | ⟨g', c, cur, hv, -, -, h1, h2, -⟩
    · cases hv
    · simp only [Value.slice.injEq] at hv
      obtain ⟨-, -, rfl⟩ := hv
      unfold maxLen at h2
      exact ⟨h1, by omega⟩
  obtain ⟨hlc, hcm⟩ := hcap
  have hne : ((i : Int) == (i : Int) + 1) = false := by rw [beq_eq_false_iff_ne]; omega
  obtain ⟨n, hn⟩ : ∃ n, n = l.length := ⟨_, rfl⟩
  rw [← hn] at hi hm hlc ⊢
  have Hn := Lib.hid hn
  have hi1 : i + 1 ≤ n := by omega
  have hicap : i ≤ cap := by omega
  have hicap1 : i + 1 ≤ cap := by omega
  have hile : (i : Int) ≤ cap := by omega
  have hi0 : (0 : Int) ≤ i := by omega
  have hi01 : (0 : Int) ≤ (i : Int) + 1 := by omega
  have hic : (i : Int) + 1 ≤ cap := by omega
  have hin : (i : Int) + 1 ≤ n := by omega
  have hnc : (n : Int) ≤ cap := by omega
  have hd : (znR (l.drop (i + 1))).length = (n - (i + 1)) * 9 := by rw [znR_length, List.length_drop, hn]
  have hcellsW : ∀ j, j < n * 9 → w.cell? ⟨g, j, none⟩ = (znR l)[j]? := fun j hj => h.cellAt j (by rw [← hn]; exact hj)
  have hcells : ∀ j u, (znR (l.drop (i + 1)))[j]? = some u → w.cell? ((⟨g, (i + 1) * 9, none⟩ : Addr).add j) = some u := by
    intro j u hu
    have hj : j < (n - (i + 1)) * 9 := by rw [← hd]; exact (List.getElem?_eq_some_iff.1 hu).1
    rw [add_none, hcellsW _ (by omega), ← hu]
    have e : znR l = znR (l.take (i + 1)) ++ znR (l.drop (i + 1)) := by rw [← znR_append, List.take_append_drop]
    have hl9 : (znR (l.take (i + 1))).length = (i + 1) * 9 := by rw [znR_length, List.length_take, ← hn, Nat.min_eq_left hi1]
    rw [e, List.getElem?_append_right (by omega), hl9]
    congr 1
    omega
  have hsp : ∀ j, j < (znR (l.drop (i + 1))).length → (w.cell? ⟨g, 0 + i * 9 + j, none⟩).isSome = true ∧ w.frozen? ⟨g, 0 + i * 9 + j, none⟩ = false := by
    intro j hj
    rw [hd] at hj
    refine ⟨?_, h.frozenAt _⟩
    rw [hcellsW _ (by omega), List.getElem?_eq_getElem (by rw [znR_length, ← hn]; omega)]
    rfl
  have Hd := Lib.hid hd
  have Hcells := Lib.hid hcells
  have Hsp := Lib.hid hsp
  have HcW := Lib.hid hcellsW
  clear h hn hd hcells hsp hcellsW
  by_cases hcc : cap = i + 1
  · subst hcc
    obtain rfl : n = i + 1 := by omega
    have hnil : l.drop (i + 1) = [] := by rw [List.drop_eq_nil_iff, ← Hn.out]; omega
    have hfin := deleted H.out (by rw [← Hn.out]; exact hi) Hn.out
    rw [hnil] at hfin
    have hsome : ∀ j, j < 1 * zero9.size → (w.drew.cell? ⟨g, i * 9 + j, none⟩).isSome = true := fun j hj => by
      have hj4 : j < 9 := hj
      show (w.cell? _).isSome = true
      rw [HcW.out _ (by omega), List.getElem?_eq_getElem (by rw [znR_length, ← Hn.out]; omega)]
      rfl
    have hfro : ∀ j, j < 1 * zero9.size → w.drew.frozen? ⟨g, i * 9 + j, none⟩ = false := fun j hj => H.out.frozenAt _
    have hclear := run_clear_rows (P := Try.prog) w.drew 28 39 0 (.agg zero9) Try.underlying28 zeroZone (by decide) g (i * 9) 1 1 (by decide) hsome hfro
    have hfin2 := Lib.hid hfin
    clear hsome hfro hfin hnil
    have hii1 : i ≤ i + 1 := by omega
    have hii2 : i + 1 - i = 1 := by omega
    have hii3 : ¬ i + 1 = i := by omega
    have hii4 : (i : Int) ≤ (i : Int) + 1 := by omega
    go_enter Try.func81, Try.ntmps81
    go_wp2_with fail
    go_region_law (((refine step_append_room rfl (.tmp 22) (.tmp 25) 28 rfl 39 i0 9 Try.underlying28 hii hz1 g 0 i (i + 1) ?_ ⟨g, 0, none⟩ 0 0 [] ?_ rfl (fun _ _ h => by simp at h) (fun _ h => by simp at h) ?_ (fun _ h => by simp at h) ?_); (focus (rfl)); (focus (rfl)); (focus (exact hii1))))
    all_goals
      show Exit.then _ _ Exit.normal _ w.drew
      go_wp2_with fail
      go_ret
      exact ⟨by rw [show i + 1 - 1 = i by omega]; rfl, by rw [show i + 1 - 1 = i by omega]; exact hfin2.out.1, hfin2.out.2⟩
  · have hcc2 : ¬ (cap : Int) = i + 1 := by omega
    obtain ⟨q, hq⟩ : ∃ q, q = n - (i + 1) := ⟨_, rfl⟩
    obtain ⟨r, hr⟩ : ∃ r, r = i + q := ⟨_, rfl⟩
    have hrn : r + 1 = n := by omega
    have Hd2 : Hid ((znR (l.drop (i + 1))).length = q * 9) := by rw [hq]; exact Hd
    have Hq := Lib.hid hq
    have Hr := Lib.hid hr
    have hroom : i + q ≤ cap := by omega
    clear hq hr Hd
    go_enter Try.func81, Try.ntmps81
    go_wp2_with fail
    go_region_law (((refine step_append_room rfl (.tmp 22) (.tmp 25) 28 rfl 39 i0 9 Try.underlying28 hii hz1 g 0 i cap ?_ ⟨g, (i + 1) * 9, none⟩ q (cap - (i + 1)) (znR (l.drop (i + 1))) ?_ Hd2.out (Hcells.out) (znR_one _) ?_ Hsp.out ?_); (focus (rfl)); (focus (exact congrArg (fun z => Value.slice _ z _) Hq.out.symm)); (focus (exact hroom)); rw [← Hr.out]))
    all_goals
      have hfin := deleted H.out (by rw [← Hn.out]; exact hi) (hrn.trans Hn.out)
      generalize hw2 : (w.drew.setCells g _ (znR (l.drop (i + 1)))) = w2 at hfin ⊢
      have hsome : ∀ j, j < 1 * zero9.size → (w2.cell? ⟨g, r * 9 + j, none⟩).isSome = true := fun j hj => by
        have hj4 : j < 9 := hj
        rw [← hw2]
        apply World.isSome_setCells
        show (w.cell? _).isSome = true
        rw [HcW.out _ (by omega), List.getElem?_eq_getElem (by rw [znR_length, ← Hn.out]; omega)]
        rfl
      have hfro : ∀ j, j < 1 * zero9.size → w2.frozen? ⟨g, r * 9 + j, none⟩ = false := fun j hj => by
        rw [← hw2, World.frozen?_setCells]
        exact H.out.frozenAt _
      have hclear := run_clear_rows (P := Try.prog) w2 28 39 0 (.agg zero9) Try.underlying28 zeroZone (by decide) g (r * 9) 1 (cap - r) (by decide) hsome hfro
      have hfin2 := Lib.hid hfin
      clear hw2 hsome hfro hfin
      have hr1 : r ≤ n := by omega
      have hr2 : n - r = 1 := by omega
      have hr3 : (r : Int) ≤ n := by omega
      have hr4 : r < cap := by omega
      have hr5 : r ≤ cap := by omega
      have hr6 : n ≤ cap := by omega
      have hr7 : ¬ cap = r := by omega
      go_wp2_with fail
      go_ret
      exact ⟨by rw [show n - 1 = r by omega]; rfl, by rw [show n - 1 = r by omega]; exact hfin2.out.1, hfin2.out.2⟩
end Go.Proofs.Ytobnibdeimiinaa
