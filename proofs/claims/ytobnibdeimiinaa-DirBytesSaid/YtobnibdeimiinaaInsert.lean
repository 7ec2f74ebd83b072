/- slices.Insert of one zone: four roads. -/
import Derived.Test.YtobnibdeimiinaaIns
import Derived.Lib.AppendZerosOnto
import Derived.Deep.RegionLaw
namespace Go.Proofs.Ytobnibdeimiinaa
open Go.RowKit

def zero9 : Array Value := #[.int .i64 0, .string ⟨#[]⟩, .string ⟨#[]⟩, .int .i64 0, .int .i64 0, .int .i64 0, .int .i64 0, .string ⟨#[]⟩, .int .i64 0]
theorem zoneInfo : (Try.prog.info? 39).map (fun i => (i.zero, i.size, i.bytes)) = some (some (.agg zero9), 9, 96) := by kernel_rfl
theorem zoneSize : (Try.prog.info? 39).map (·.size) = some 9 := by kernel_rfl
theorem zoneSizeOf (w : World) : (Go.sizeOf 39).run Try.prog w = .ok 9 w := by kernel_rfl
theorem shape_of {w : World} {b : Nat} {cur : Array Value} {t : TypeId} {fr : Nat × Nat} (h : w.heap[b]? = some (.cells cur t fr)) : w.shape? b = some (t, cur.size) := by simp [World.shape?, h]
set_option maxRecDepth 20000 in
set_option maxHeartbeats 4000000 in
theorem insert_end {base g cap : Nat} {l : List Zn} {z : Zn} {w : World} (h : OwnZ w base g cap l) (hm : l.length ≤ 1000) (vb : Nat) (hv : w.heap[vb]? = some (.cells (znV z).toArray 39 (0, 0))) (hbase : base ≤ w.heap.size) :
    Calls Try.prog 79 #[.slice (some ⟨g, 0, none⟩) l.length cap, .int .i64 l.length, .slice (some ⟨vb, 0, none⟩) 1 1] w fun e w' => ∃ g' cap', e = .returned (.slice (some ⟨g', 0, none⟩) (l.length + 1) cap') ∧ OwnZ w' base g' cap' (l ++ [z]) ∧ Keeps w w' (fun x => x = g) ∧ (g' = g ∨ w.heap.size ≤ g') := by
  obtain ⟨i0, hi, hz0, hz1, hz2⟩ := info_parts zoneInfo
  have hcv : ∀ j u, (znV z)[j]? = some u → w.cell? ((⟨vb, 0, none⟩ : Addr).add j) = some u := fun j u hu => by
    rw [add_none, Nat.zero_add, (cells_of_obj hv).1 j]; simpa using hu
  have H := Lib.hid h
  have Hcv := Lib.hid hcv
  clear h hv hcv
  go_enter Try.func79, Try.ntmps79
  go_wp2_with (at_builtin; go_must (refine wpList_append_foot _ rfl (.tmp 23) (.tmp 24) 28 rfl base 39 i0 (.agg zero9) 9 96 Try.underlying28 hi hz0 hz1 hz2 rfl (by decide) (some ⟨g, 0, none⟩) l.length cap (znR l) rfl H.out (some ⟨vb, 0, none⟩) 1 1 (znV z) rfl (fun h => by cases h) rfl (fun ad e => (Option.some.inj e) ▸ Hcv.out) (znV_one z) (by unfold maxLen; omega) (by omega) hbase ?_))
  all_goals
    intro co c' w1 hown hgrow hco
    have ho : ∃ g', co = some ⟨g', 0, none⟩ := by
      rcases hown.2 with ⟨hv, h0⟩ | ⟨g', c, cur, hv, -⟩
      · simp at h0
      · simp only [Value.slice.injEq] at hv; exact ⟨g', hv.1⟩
    obtain ⟨g', rfl⟩ := ho
    have Hown := Lib.hid hown
    have Hk : Hid (Keeps w w1 (fun x => x = g)) := (Keeps.grown hgrow).weak (fun i _ e => (show i = g from Option.some.inj e))
    have Hg : Hid (g' = g ∨ w.heap.size ≤ g') := by
      rcases hco _ rfl with e | e
      · left; simpa using e.symm
      · exact .inr e
    clear hown hgrow hco
    go_wp2_with fail
    go_ret
    refine ⟨g', c', rfl, ?_, Hk.out, Hg.out⟩
    have := Hown.out
    unfold OwnZ
    rw [znR_append, List.length_append]
    simpa [znR] using this
set_option maxRecDepth 20000 in
set_option maxHeartbeats 8000000 in
theorem insert_shift {base g cap : Nat} {l : List Zn} {z : Zn} {w : World} (i : Nat) (hi : i < l.length) (hr : l.length + 1 ≤ cap) (h : OwnZ w base g cap l) (hm : l.length ≤ 1000) (vb : Nat) (hne : vb ≠ g) (hv : w.heap[vb]? = some (.cells (znV z).toArray 39 (0, 0))) :
    Calls Try.prog 79 #[.slice (some ⟨g, 0, none⟩) l.length cap, .int .i64 i, .slice (some ⟨vb, 0, none⟩) 1 1] w fun e w' => ∃ g' cap', e = .returned (.slice (some ⟨g', 0, none⟩) (l.length + 1) cap') ∧ OwnZ w' base g' cap' (l.take i ++ z :: l.drop i) ∧ Keeps w w' (fun x => x = g) ∧ (g' = g ∨ w.heap.size ≤ g') := by
  have hcv : ∀ j u, (znV z)[j]? = some u → w.cell? ((⟨vb, 0, none⟩ : Addr).add j) = some u := fun j u hu => by
    rw [add_none, Nat.zero_add, (cells_of_obj hv).1 j]; simpa using hu
  obtain ⟨f1, f2, f3, f4⟩ := h.facts
  obtain ⟨cur, hb, hbs⟩ := h.block
  obtain ⟨n, hn⟩ : ∃ n, n = l.length := ⟨_, rfl⟩
  have hfin := shifted (z := z) h (by omega : i ≤ l.length) hr rfl
  have hov : ∀ lb cb, (callFunc 104 #[.slice (some ⟨vb, 0, none⟩) 1 1, .slice (some ⟨g, (i + 1) * 9, none⟩) lb cb]).run Try.prog w = .ok (.value (.bool false)) w := fun lb cb => by
    rw [run_callFunc_extern Try.func104 (by kernel_rfl) (by kernel_rfl) (by kernel_rfl) (e := Extern.SlicesOverlaps.overlaps #[28, 28] #[4]) (by kernel_rfl),
      Lib.run_overlaps_apart w 28 4 39 Try.underlying28 9 zoneSizeOf ⟨vb, 0, none⟩ ⟨g, (i + 1) * 9, none⟩ 1 1 lb cb hne 39 39 _ _ (shape_of hv) (shape_of hb) (by omega) ((cells_of_obj hv).2 _) ((cells_of_obj hv).2 _)]
    rfl
  have hsome : ∀ j, j < cap * 9 → (w.cell? ⟨g, j, none⟩).isSome = true := fun j hj => by
    simp only [World.cell?, hb, Array.getElem?_eq_getElem (show j < cur.size by omega)]
    simp
  have hdl : (znR (l.drop i)).length = (l.length - i) * 9 := by rw [znR_length, List.length_drop]
  have hold : ∀ j, j < l.length * 9 → w.cell? ⟨g, j, none⟩ = (znR l)[j]? := fun j hj => h.cellAt j hj
  have hsp : znR l = znR (l.take i) ++ znR (l.drop i) := by rw [← znR_append, List.take_append_drop]
  have htl : (znR (l.take i)).length = i * 9 := by rw [znR_length, List.length_take, Nat.min_eq_left (by omega)]
  have hcp1 : ∀ ty dc sc, (Builtin.copy_ #[28, 28] ty #[.slice (some ⟨g, (i + 1) * 9, none⟩) (n - i) dc, .slice (some ⟨g, i * 9, none⟩) (n + 1 - i) sc]).run Try.prog w.drew = .ok (goInt (Nat.min (n + 1 - i) (n - i))) (w.drew.setCells g ((i + 1) * 9) (znR (l.drop i))) := fun ty dc sc =>
    run_copy_rows w.drew _ _ ty 39 9 g ((i + 1) * 9) (n - i) dc ⟨g, i * 9, none⟩ (n + 1 - i) sc (znR (l.drop i)) Try.underlying28 zoneSize (by rw [hdl, hn, show Nat.min (l.length + 1 - i) (l.length - i) = l.length - i from Nat.min_eq_right (by omega)])
      (fun j v hj => by
        have hj2 := (List.getElem?_eq_some_iff.1 hj).1
        rw [hdl] at hj2
        rw [add_none]
        refine (hold _ (by omega)).trans ?_
        rw [hsp, List.getElem?_append_right (by omega), htl, ← hj]
        congr 1
        omega)
      (fun j hj => hsome _ (by rw [hdl] at hj; omega)) (fun j _ => h.frozen _) (znR_one _)
  obtain ⟨W1, hW1⟩ : ∃ W1, W1 = w.drew.setCells g ((i + 1) * 9) (znR (l.drop i)) := ⟨_, rfl⟩
  have hcp2 : ∀ (W : World), (∀ x, W.cell? x = W1.cell? x) → (∀ x, W.frozen? x = W1.frozen? x) → ∀ ty dc, (Builtin.copy_ #[28, 28] ty #[.slice (some ⟨g, i * 9, none⟩) (n + 1 - i) dc, .slice (some ⟨vb, 0, none⟩) 1 1]).run Try.prog W = .ok (goInt (Nat.min 1 (n + 1 - i))) (W.setCells g (i * 9) (znV z)) := fun W hWc hWf ty dc =>
    run_copy_rows W _ _ ty 39 9 g (i * 9) (n + 1 - i) dc ⟨vb, 0, none⟩ 1 1 (znV z) Try.underlying28 zoneSize (by rw [show Nat.min 1 (n + 1 - i) = 1 from Nat.min_eq_left (by omega)]; rfl)
      (fun j v hj => by
        rw [add_none, hWc, hW1, World.cell?_setCells_out g _ _ _ _ (fun h _ => absurd h hne)]
        have := hcv j v hj
        rw [add_none] at this
        exact this)
      (fun j hj => by rw [hWc, hW1]; exact World.isSome_setCells g _ _ _ _ (hsome _ (by rw [znV_length] at hj; omega))) (fun j _ => by rw [hWf, hW1, World.frozen?_setCells]; exact h.frozen _) (znV_one z)
  rw [← hW1] at hcp1 hfin
  rw [← hn] at hi hr hm ⊢
  have Hfin := Lib.hid hfin
  have hcp3 := fun ty dc => hcp2 W1 (fun _ => rfl) (fun _ => rfl) ty dc
  clear hfin hcp2 hW1 hold hsp htl hdl hsome hn hb hbs hcv hv h
  have e1 : n + 1 - (i + 1) = n - i := by omega
  have e2 : (i : Int) ≤ n + 1 := by omega
  have e3 : (i : Int) + 1 ≤ n + 1 := by omega
  have e4 : ¬ cap = i := by omega
  have e5 : ¬ cap = i + 1 := by omega
  have e6 : i ≤ n := by omega
  have e7 : ¬ ((i : Int) = n) := by omega
  have e8 : (n : Int) + 1 ≤ cap := by omega
  have e9 : IntKind.i64.wrap ((i : Int) + 1) = (i : Int) + 1 := by rw [IntKind.wrap_i64]; omega
  have e10 : (0 : Int) ≤ (i : Int) + 1 := by omega
  have e11 : ((i : Int) + 1).toNat = i + 1 := by omega
  go_enter Try.func79, Try.ntmps79
  go_wp2_with (simp only [hov])
  go_region_law (refine step_copy_ran rfl _ _ 28 28 rfl (by simp [Act.eval, Act.put]) (by simp [Act.eval, Act.put]) (hcp1 _ _ _) ?_)
  go_wp2_with (at_builtin; refine wpList_copy_ran _ rfl _ _ 28 28 rfl _ _ rfl rfl (hcp3 _ _) ?_)
  go_ret
  exact ⟨g, cap, rfl, Hfin.out.1, Hfin.out.2, .inl rfl⟩
/-- A row that grew: the zones ahead, the new one, the zones behind. -/
theorem grown_in {w1 w3 : World} {base N G i : Nat} {l : List Zn} {z : Zn} {ROW : Array Value} (hN : w1.heap[N]? = some (.cells ROW 39 (0, 0))) (hb : base ≤ N) (hi : i ≤ l.length) (hG : l.length + 1 ≤ G) (hGm : G ≤ maxLen) (hs : ROW.size = G * 9) (hr : ∀ j, j < i * 9 → ROW[j]? = (znR l)[j]?) (h3 : w3.heap = (w1.setCells N (i * 9) (znV z)).heap) :
    OwnZ (w3.setCells N ((i + 1) * 9) (znR (l.drop i))) base N G (l.take i ++ z :: l.drop i) := by
  have hlen : (l.take i ++ z :: l.drop i).length = l.length + 1 := by simp; omega
  have hdl : (znR (l.drop i)).length = (l.length - i) * 9 := by rw [znR_length, List.length_drop]
  have htl : (znR (l.take i)).length = i * 9 := by rw [znR_length, List.length_take, Nat.min_eq_left hi]
  have hsp : znR l = znR (l.take i) ++ znR (l.drop i) := by rw [← znR_append, List.take_append_drop]
  obtain ⟨c1, hc1, e1⟩ := block_setCells N 39 (0, 0) (znV z) (i * 9) _ ROW hN
  rw [← h3] at hc1
  obtain ⟨c2, hc2, e2⟩ := block_setCells N 39 (0, 0) (znR (l.drop i)) ((i + 1) * 9) _ c1 hc1
  have hcell : ∀ j, j < G * 9 → (w1.cell? ⟨N, j, none⟩).isSome = true := fun j hj => by
    simp only [World.cell?, hN, Array.getElem?_eq_getElem (show j < ROW.size by omega)]
    simp
  have h3c : ∀ x, w3.cell? x = (w1.setCells N (i * 9) (znV z)).cell? x := fun x => by unfold World.cell?; rw [h3]
  have hc3 : ∀ j, j < G * 9 → (w3.cell? ⟨N, j, none⟩).isSome = true := fun j hj => by
    rw [h3c]; exact World.isSome_setCells N _ _ _ _ (hcell _ hj)
  unfold OwnZ
  rw [hlen]
  refine owns_of_cells hb hc2 hG hGm (by omega) (by rw [znR_length, hlen]) ?_
  intro j hj
  rw [znR_length, hlen] at hj
  rw [← List.getElem?_eq_getElem, znR_append, znR_cons]
  by_cases hji : j < i * 9
  · rw [World.cell?_setCells_out N _ _ _ _ (fun _ _ => .inl (show j < (i + 1) * 9 by omega)), h3c, World.cell?_setCells_out N _ _ _ _ (fun _ _ => .inl hji), List.getElem?_append_left (by omega)]
    have := hr j hji
    rw [hsp, List.getElem?_append_left (by omega)] at this
    rw [← this]
    simp [World.cell?, hN]
  · obtain ⟨k, rfl⟩ : ∃ k, j = i * 9 + k := ⟨j - i * 9, by omega⟩
    rw [List.getElem?_append_right (by omega), htl, show i * 9 + k - i * 9 = k from by omega]
    by_cases hk : k < 9
    · rw [World.cell?_setCells_out N _ _ _ _ (fun _ _ => .inl (show i * 9 + k < (i + 1) * 9 by omega)), h3c, World.cell?_setCells_in N _ _ _ (fun q hq => by
        rw [znV_length] at hq
        exact hcell _ (by omega)) k (by rw [znV_length]; exact hk), List.getElem?_append_left (by rw [znV_length]; exact hk), List.getElem?_eq_getElem]
    · obtain ⟨q, rfl⟩ : ∃ q, k = 9 + q := ⟨k - 9, by omega⟩
      rw [show i * 9 + (9 + q) = (i + 1) * 9 + q by omega]
      rw [World.cell?_setCells_in N _ _ _ (fun x hx => hc3 _ (by rw [hdl] at hx; omega)) q (by rw [hdl]; omega), List.getElem?_append_right (by rw [znV_length]; omega), znV_length, show 9 + q - 9 = q by omega, List.getElem?_eq_getElem]
set_option maxRecDepth 20000 in
set_option maxHeartbeats 8000000 in
theorem insert_grow {base g cap : Nat} {l : List Zn} {z : Zn} {w : World} (i : Nat) (hi : i < l.length) (hr : cap < l.length + 1) (h : OwnZ w base g cap l) (hm : l.length ≤ 1000) (vb : Nat) (hv : w.heap[vb]? = some (.cells (znV z).toArray 39 (0, 0))) (hbase : base ≤ w.heap.size) :
    Calls Try.prog 79 #[.slice (some ⟨g, 0, none⟩) l.length cap, .int .i64 i, .slice (some ⟨vb, 0, none⟩) 1 1] w fun e w' => ∃ g' cap', e = .returned (.slice (some ⟨g', 0, none⟩) (l.length + 1) cap') ∧ OwnZ w' base g' cap' (l.take i ++ z :: l.drop i) ∧ Keeps w w' (fun x => x = g) ∧ (g' = g ∨ w.heap.size ≤ g') := by
  obtain ⟨i0, hi0, hz0, hz1, hz2⟩ := info_parts zoneInfo
  have hcv : ∀ j u, (znV z)[j]? = some u → w.cell? ⟨vb, j, none⟩ = some u := fun j u hu => by
    rw [(cells_of_obj hv).1 j]; simpa using hu
  obtain ⟨f1, f2, f3, f4⟩ := h.facts
  obtain ⟨cur, hb, hbs⟩ := h.block
  have hvw := lt_of_block hv
  obtain ⟨n, hn⟩ : ∃ n, n = l.length := ⟨_, rfl⟩
  obtain rfl : cap = n := by omega
  obtain ⟨N, hNN⟩ : ∃ N, N = w.heap.size := ⟨_, rfl⟩
  obtain ⟨k, hk⟩ : ∃ k, k = cap + 1 - i := ⟨_, rfl⟩
  have hdl : (znR (l.drop i)).length = (l.length - i) * 9 := by rw [znR_length, List.length_drop]
  have hold : ∀ j, j < l.length * 9 → w.cell? ⟨g, j, none⟩ = (znR l)[j]? := fun j hj => h.cellAt j hj
  have hsp : znR l = znR (l.take i) ++ znR (l.drop i) := by rw [← znR_append, List.take_append_drop]
  have htl : (znR (l.take i)).length = i * 9 := by rw [znR_length, List.length_take, Nat.min_eq_left (by omega)]
  have hfirst : (Builtin.firstCells i0.size i (.slice (some ⟨g, 0, none⟩) i cap)).run Try.prog w.drew = .ok (znR (l.take i)).toArray w.drew := by
    rw [hz1]
    refine run_firstCells_some w.drew 9 i ⟨g, 0, none⟩ i cap (znR (l.take i)) htl (fun j v hj => ?_)
    have hj2 := (List.getElem?_eq_some_iff.1 hj).1
    rw [add_none, Nat.zero_add]
    refine (hold _ (by omega)).trans ?_
    rw [hsp, List.getElem?_append_left (by omega), hj]
  obtain ⟨G, hG⟩ : ∃ G, G = grownCap w (cap + 1) cap 39 := ⟨_, rfl⟩
  have hG1 : cap + 1 ≤ G := by rw [hG]; exact grownCap_ge w _ _ _
  have hG2 : G ≤ maxLen := by rw [hG]; exact grownCap_le_maxLen w _ _ _ (by unfold maxLen; omega)
  have hG63 : G ≤ 9223372036854775807 := by have := hG2; unfold maxLen at this; omega
  obtain ⟨ROW, hROW⟩ : ∃ ROW : Array Value, ROW = (znR (l.take i)).toArray ++ Builtin.zeroCells (Value.agg zero9).cells k ++ Builtin.zeroCells (Value.agg zero9).cells (G - (cap + 1)) := ⟨_, rfl⟩
  have hrz : ∀ ty, (Builtin.append_ #[28, 3] ty #[.slice (some ⟨g, 0, none⟩) i cap, .int .i64 (k : Int)]).run Try.prog w = .ok (.slice (some ⟨N, 0, none⟩) (cap + 1) G) (w.drew.alloc (.cells ROW 39)) := fun ty => by
    have h := Lib.run_append_grow_zeros w 28 3 ty 39 i0 _ .i64 .i64 Try.underlying28 Try.underlying3 hi0 hz0 (some ⟨g, 0, none⟩) i cap (znR (l.take i)) hfirst k (by omega) (by omega) (by omega) (by omega) (by rw [hz2]; omega) (by rw [hz2, hk, show i + (cap + 1 - i) = cap + 1 by omega]; exact growslice_fits (by omega) (by omega))
    rw [show i + k = cap + 1 by omega, ← hG, ← hROW, ← hNN] at h
    exact h
  have hRs : ROW.size = G * 9 := by
    rw [hROW]
    simp only [Array.size_append, List.size_toArray, htl, Builtin.zeroCells, Array.size_map, Array.size_range, Value.cells, zero9]
    simp
    omega
  have hRr : ∀ j, j < i * 9 → ROW[j]? = (znR l)[j]? := fun j hj => by
    rw [hROW, hsp, List.getElem?_append_left (by omega), Array.append_assoc, Array.getElem?_append_left (by simpa [htl] using hj)]
    simp
  obtain ⟨W1, hW1⟩ : ∃ W1, W1 = w.drew.alloc (.cells ROW 39) := ⟨_, rfl⟩
  rw [← hW1] at hrz
  have hWN : W1.heap[N]? = some (.cells ROW 39 (0, 0)) := by rw [hW1, hNN]; exact heap_new w.drew _
  have hcN : ∀ j, j < G * 9 → (W1.cell? ⟨N, j, none⟩).isSome = true := fun j hj => by
    simp only [World.cell?, hWN, Array.getElem?_eq_getElem (show j < ROW.size by omega)]
    simp
  have hfN : ∀ j, W1.frozen? ⟨N, j, none⟩ = false := (cells_of_obj hWN).2
  have hW1c : ∀ b j, b < w.heap.size → W1.cell? ⟨b, j, none⟩ = w.cell? ⟨b, j, none⟩ := fun b j hb => by rw [hW1, World.cell?_alloc_past (w := w.drew) _ b j hb]; rfl
  have hcpA : ∀ ty dc, (Builtin.copy_ #[28, 28] ty #[.slice (some ⟨N, i * 9, none⟩) k dc, .slice (some ⟨vb, 0, none⟩) 1 1]).run Try.prog W1 = .ok (goInt (Nat.min 1 k)) (W1.setCells N (i * 9) (znV z)) := fun ty dc =>
    run_copy_rows W1 _ _ ty 39 9 N (i * 9) k dc ⟨vb, 0, none⟩ 1 1 (znV z) Try.underlying28 zoneSize (by rw [show Nat.min 1 k = 1 from Nat.min_eq_left (by omega)]; rfl)
      (fun j v hj => by rw [add_none, Nat.zero_add, hW1c _ _ hvw]; exact hcv j v hj)
      (fun j hj => hcN _ (by rw [znV_length] at hj; omega)) (fun j _ => hfN _) (znV_one z)
  obtain ⟨W3, hW3⟩ : ∃ W3, W3 = (W1.setCells N (i * 9) (znV z)).drew := ⟨_, rfl⟩
  have hW3c : ∀ x, W3.cell? x = (W1.setCells N (i * 9) (znV z)).cell? x := fun x => by rw [hW3]; generalize W1.setCells N (i * 9) (znV z) = X; rfl
  have hW3f : ∀ x, W3.frozen? x = (W1.setCells N (i * 9) (znV z)).frozen? x := fun x => by rw [hW3]; generalize W1.setCells N (i * 9) (znV z) = X; rfl
  have hW3h : W3.heap = (W1.setCells N (i * 9) (znV z)).heap := by rw [hW3]; generalize W1.setCells N (i * 9) (znV z) = X; rfl
  have hcpB : ∀ ty dc sc, (Builtin.copy_ #[28, 28] ty #[.slice (some ⟨N, (i + 1) * 9, none⟩) (cap - i) dc, .slice (some ⟨g, i * 9, none⟩) (cap - i) sc]).run Try.prog W3 = .ok (goInt (Nat.min (cap - i) (cap - i))) (W3.setCells N ((i + 1) * 9) (znR (l.drop i))) := fun ty dc sc =>
    run_copy_rows W3 _ _ ty 39 9 N ((i + 1) * 9) (cap - i) dc ⟨g, i * 9, none⟩ (cap - i) sc (znR (l.drop i)) Try.underlying28 zoneSize (by rw [hdl, ← hn, show Nat.min (cap - i) (cap - i) = cap - i from Nat.min_self _])
      (fun j v hj => by
        have hj2 := (List.getElem?_eq_some_iff.1 hj).1
        rw [hdl] at hj2
        rw [add_none, hW3c, World.cell?_setCells_out N _ _ _ _ (fun h _ => absurd h (show g ≠ N by omega)), hW1c _ _ f2]
        refine (hold _ (by omega)).trans ?_
        rw [hsp, List.getElem?_append_right (by omega), htl, ← hj]
        congr 1
        omega)
      (fun j hj => by rw [hW3c]; exact World.isSome_setCells N _ _ _ _ (hcN _ (by rw [hdl] at hj; omega))) (fun j _ => by rw [hW3f, World.frozen?_setCells]; exact hfN _) (znR_one _)
  have hfin := Lib.hid (grown_in (w3 := W3) (z := z) hWN (by omega : base ≤ N) (by omega : i ≤ l.length) (by omega : l.length + 1 ≤ G) hG2 hRs hRr hW3h)
  have hkp : Hid (Keeps w (W3.setCells N ((i + 1) * 9) (znR (l.drop i))) (fun x => x = g)) := by
    have k0 : Keeps w W1 (fun x => x = g) := by rw [hW1]; exact Keeps.of_grown ((Below.refl _ _).drew.alloc (Nat.le_refl _) _) (Nat.le_refl _) _
    have k1 := k0.trans (keeps_setCellsN W1 N (i * 9) (znV z)) (fun _ h => h) (fun x hx e => by have : x < w.heap.size := hx; omega)
    have k2 : Keeps w W3 (fun x => x = g) := by
      rw [hW3]
      generalize W1.setCells N (i * 9) (znV z) = X at k1
      exact ⟨k1.os, k1.tape, k1.output, k1.size, k1.block⟩
    exact k2.trans (keeps_setCellsN W3 N _ _) (fun _ h => h) (fun x hx e => by have : x < w.heap.size := hx; omega)
  have hgN : w.heap.size ≤ N := by omega
  have e1 : cap + 1 - (i + 1) = cap - i := by omega
  have e2 : (i : Int) ≤ cap := by omega
  have e3 : (cap : Int) + 1 - i = k := by omega
  have e4 : ¬ cap = i := by omega
  have e5 : ¬ G = i := by omega
  have e6 : ¬ G = i + 1 := by omega
  have e7 : ¬ ((i : Int) = cap) := by omega
  have e8 : (i : Int) ≤ (cap : Int) + 1 := by omega
  have e9 : IntKind.i64.wrap ((i : Int) + 1) = (i : Int) + 1 := by rw [IntKind.wrap_i64]; omega
  have e10 : (0 : Int) ≤ (i : Int) + 1 := by omega
  have e11 : ((i : Int) + 1).toNat = i + 1 := by omega
  have e12 : (i : Int) + 1 ≤ (cap : Int) + 1 := by omega
  have e13 : cap + 1 - i = k := by omega
  rw [← hn] at hi hm ⊢
  rw [hW3] at hcpB hfin hkp
  clear hW3f hW3h hold hsp htl hdl hfirst hROW hRs hRr hWN hcN hfN hW1c hW3c hcv hv hb hbs h hk hG hG2 hW1 hW3 hNN hn hz0 hz1 hz2 hi0 hvw hbase f1 f2 f3 hr hm
  go_enter Try.func79, Try.ntmps79
  go_wp2_with (first
    | (at_builtin; refine Lib.wpList_append_run _ rfl _ _ _ _ rfl _ _ rfl rfl _ _ (hrz _) ?_)
    | (at_builtin; refine wpList_copy_ran _ rfl _ _ 28 28 rfl _ _ rfl rfl (hcpA _ _) ?_))
  go_region_law (refine step_copy_ran rfl _ _ 28 28 rfl (by simp [Act.eval, Act.put]) (by simp [Act.eval, Act.put]) (hcpB _ _ _) ?_)
  go_wp2_with fail
  go_ret
  exact ⟨N, G, rfl, hfin.out, hkp.out, .inr hgN⟩
theorem insert_any {base g cap : Nat} {l : List Zn} {z : Zn} {w : World} (i : Nat) (hi : i ≤ l.length) (h : OwnZ w base g cap l) (hm : l.length ≤ 1000) (vb : Nat) (hne : vb ≠ g) (hv : w.heap[vb]? = some (.cells (znV z).toArray 39 (0, 0))) (hbase : base ≤ w.heap.size) :
    Calls Try.prog 79 #[.slice (some ⟨g, 0, none⟩) l.length cap, .int .i64 i, .slice (some ⟨vb, 0, none⟩) 1 1] w fun e w' => ∃ g' cap', e = .returned (.slice (some ⟨g', 0, none⟩) (l.length + 1) cap') ∧ OwnZ w' base g' cap' (l.take i ++ z :: l.drop i) ∧ Keeps w w' (fun x => x = g) ∧ (g' = g ∨ w.heap.size ≤ g') := by
  rcases Nat.lt_or_ge i l.length with h1 | h1
  · rcases Nat.lt_or_ge cap (l.length + 1) with h2 | h2
    · exact insert_grow i h1 h2 h hm vb hv hbase
    · exact insert_shift i h1 h2 h hm vb hne hv
  · obtain rfl : i = l.length := by omega
    rw [List.take_of_length_le (Nat.le_refl _), List.drop_of_length_le (Nat.le_refl _)]
    exact insert_end h hm vb hv hbase
end Go.Proofs.Ytobnibdeimiinaa
