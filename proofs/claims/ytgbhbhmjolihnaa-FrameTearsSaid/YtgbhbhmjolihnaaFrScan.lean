/- The contracts of Scan, of the code and of the document. -/
import Derived.Test.YtgbhbhmjolihnaaFrRef
import Derived.Test.YtgbhbhmjolihnaaThs
namespace Go.Proofs.Ytgbhbhmjolihnaa
open Go.RowKit

def slV (r : RowR) : Value := .slice r.ao r.bs.length r.cap
/-- Rows of bytes that the call made, in a row of its own: none of them lies in the row's own block. -/
structure OwnRs (w : World) (base : Nat) (ao : Option Addr) (cap : Nat) (L : List RowR) : Prop where
  own : w.ownsRow base 22 1 (.slice ao L.length cap) L.length (L.map slV)
  each : ∀ r ∈ L, r.bs.length ≤ r.cap ∧ r.cap ≤ 9223372036854775807 ∧ (r.ao = none → r.bs.length = 0 ∧ r.cap = 0) ∧ BIn w (fun x => ∀ a, ao = some a → a.block ≠ x) r.ao r.bs
theorem OwnRs.nil (w : World) (base : Nat) : OwnRs w base none 0 [] := ⟨World.ownsRow_nil _ _ _ _, fun _ h => by simp at h⟩
theorem OwnRs.none {w : World} {base : Nat} {ao : Option Addr} {cap : Nat} {L : List RowR} (h : OwnRs w base ao cap L) : ao = .none → L.length = 0 ∧ cap = 0 := by
  intro e
  subst e
  rcases h.own.2 with ⟨hv, h0⟩ | ⟨g, c, cur, hv, -⟩
  · simp only [Value.slice.injEq] at hv; exact ⟨h0, hv.2.2⟩
  · simp at hv
theorem OwnRs.le {w : World} {base : Nat} {ao : Option Addr} {cap : Nat} {L : List RowR} (h : OwnRs w base ao cap L) : L.length ≤ cap ∧ cap ≤ 9223372036854775807 := by
  rcases h.own.2 with ⟨hv, h0⟩ | ⟨g, c, cur, hv, -, -, h1, h2, -⟩
  · simp only [Value.slice.injEq] at hv; omega
  · simp only [Value.slice.injEq] at hv
    obtain ⟨-, -, rfl⟩ := hv
    unfold maxLen at h2
    omega
theorem OwnRs.lt {w : World} {base : Nat} {ao : Option Addr} {cap : Nat} {L : List RowR} (h : OwnRs w base ao cap L) : ∀ a, ao = some a → a.block < w.heap.size ∧ base ≤ a.block := by
  rintro a rfl
  rcases h.own.2 with ⟨hv, -⟩ | ⟨g, c, cur, hv, hb, hh, -⟩
  · simp at hv
  · simp only [Value.slice.injEq, Option.some.injEq] at hv
    obtain ⟨rfl, -, -⟩ := hv
    exact ⟨lt_of_block hh, hb⟩
theorem own_rows_at {w : World} {base : Nat} {ao : Option Addr} {cap : Nat} {L : List RowR} (h : OwnRs w base ao cap L) : RsAt w (fun _ => True) ao L := fun hp => by
  have hown := h.own
  rcases h.own.2 with ⟨hv, h0⟩ | ⟨g, c, cur, hv, hb, hh, -⟩
  · omega
  · simp only [Value.slice.injEq] at hv
    obtain ⟨rfl, -, rfl⟩ := hv
    refine ⟨g, 0, rfl, lt_of_block hh, trivial, fun i hi => ?_⟩
    obtain ⟨e1, e2, e3, e4⟩ := h.each L[i] (List.getElem_mem hi)
    have hc := hown.cellAt i (by omega)
    rw [List.getElem?_map, List.getElem?_eq_getElem hi] at hc
    exact ⟨by rw [Nat.zero_add]; exact hc, e1, e2, e3, fun hl => let ⟨b, off, e, hb, _, hr⟩ := e4 hl; ⟨b, off, e, hb, trivial, hr⟩⟩
theorem OwnRs.grow {w w' : World} {base : Nat} {ao : Option Addr} {cap : Nat} {L : List RowR} (h : OwnRs w base ao cap L) (b : Below w.heap.size w w') : OwnRs w' base ao cap L := by
  refine ⟨⟨h.own.1, ?_⟩, fun r hr => ?_⟩
  · rcases h.own.2 with h2 | ⟨g, c, cur, hv, hg, hh, r⟩
    · exact .inl h2
    · exact .inr ⟨g, c, cur, hv, hg, (b.block g (lt_of_block hh)).trans hh, r⟩
  · obtain ⟨e1, e2, e3, e4⟩ := h.each r hr
    exact ⟨e1, e2, e3, e4.keeps (keeps_same b (fun _ => False)) (fun _ _ h => h)⟩
/-- A row of the call's own is appended. -/
theorem OwnRs.append {w w1 w3 : World} {base : Nat} {ao co ro : Option Addr} {cap c' rc : Nat} {L : List RowR} {d : List UInt8} {t : TypeId} (h : OwnRs w base ao cap L) (b : Below w.heap.size w w1) (ho : OwnB w1 w.heap.size ro rc d)
    (hown : w3.ownsRow base 22 1 (.slice co (L.length + 1) c') (L.length + 1) (L.map slV ++ [.slice ro d.length rc])) (hg : (w1.alloc (.cells #[.slice ro d.length rc] t)).grownBy w3 (Value.slice ao L.length cap).ownBlock)
    (hco : ∀ g, co = some g → ao = some g ∨ w1.heap.size + 1 ≤ g.block) : OwnRs w3 base co c' (L ++ [⟨ro, rc, d⟩]) := by
  have hs1 := b.size
  have K : Keeps w1 w3 (fun x => ∃ a, ao = some a ∧ a.block = x) :=
    Keeps.trans (keeps_same (below_allocF w1 _) (fun _ => False)) ((Keeps.grown hg).weak (T := fun x => ∃ a, ao = some a ∧ a.block = x) (fun i _ e => ownBlock_of e.symm)) (fun _ h => h.elim) (fun _ _ h => h)
  refine ⟨by rw [List.length_append, List.map_append]; exact hown, fun r hr => ?_⟩
  rcases List.mem_append.1 hr with hr | hr
  · obtain ⟨e1, e2, e3, e4⟩ := (h.grow b).each r hr
    refine ⟨e1, e2, e3, fun hl => ?_⟩
    obtain ⟨x, off, e, hx, hD, hrow⟩ := (h.each r hr).2.2.2 hl
    refine ⟨x, off, e, by have := K.size; omega, fun a ha hax => ?_, (hrow.below hx b).keeps (by omega) K (fun ⟨a, ha, hax⟩ => hD a ha hax)⟩
    rcases hco a ha with h1 | h1
    · exact hD a h1 hax
    · omega
  · simp only [List.mem_cons, List.not_mem_nil, or_false] at hr
    subst hr
    refine ⟨ho.le.1, ho.le.2, ho.none, fun hl => ?_⟩
    obtain ⟨g, rfl, hg1, hg2, hrow⟩ := ho.row hl
    refine ⟨g, 0, rfl, by have := K.size; omega, fun a ha hax => ?_, hrow.keeps hg2 K (fun ⟨a, ha, hax⟩ => ?_)⟩
    · rcases hco a ha with h1 | h1
      · have := (h.lt a h1).1; omega
      · omega
    · have := (h.lt a ha).1; omega
theorem one_val (w : World) (v : Value) (t : TypeId) : ∀ ad, some (⟨w.heap.size, 0, none⟩ : Addr) = some ad → ∀ j u, [v][j]? = some u → (w.alloc (.cells #[v] t)).cell? (ad.add j) = some u := by
  intro ad had j u hu
  obtain rfl : ad = ⟨w.heap.size, 0, none⟩ := by simpa using had.symm
  exact World.news_of_block (heap_new w _) j u (by simpa using hu)
theorem rowsInfo : (Try.prog.info? 22).map (fun i => (i.zero, i.size, i.bytes)) = some (some (.slice none 0 0), 1, 24) := by kernel_rfl
/-- The post of Scan. -/
def ScanPost (w : World) (r : List (List UInt8) × Nat) (e : Ending) (w' : World) : Prop := ∃ ao cap L, e = .returned (.tuple #[.slice ao L.length cap, .int .i64 (r.2 : Nat)]) ∧ OwnRs w' w.heap.size ao cap L ∧ L.map (·.bs) = r.1 ∧ Below w.heap.size w w'
set_option maxHeartbeats 4000000 in
theorem scanframe_any (ao : Option Addr) (cap : Nat) (l : List UInt8) (w : World) (h : Sl w ao cap l) (hm : l.length ≤ 1000000) :
    Calls Try.prog 14 #[.slice ao l.length cap] w (ScanPost w (scanB l)) := by
  obtain ⟨i0, hi, hz0, hz1, hz2⟩ := info_parts rowsInfo
  have H := Lib.hid h
  have hlc := h.le
  have hcm := h.cm
  clear h
  go_enter Try.func14, Try.ntmps14
  go_wp2_with fail
  go_loopw [4, 5] (fun s4 s5 wr => ∃ (k : Nat) (vo : Option Addr) (vc : Nat) (L : List RowR), s5 = .int .i64 k ∧ s4 = .slice vo L.length vc ∧ k ≤ l.length ∧ L.length ≤ k ∧ Hid (OwnRs wr w.heap.size vo vc L) ∧ Hid (Below w.heap.size w wr) ∧ Hid (L.map (·.bs) ++ (scanB (l.drop k)).1 = (scanB l).1 ∧ k + (scanB (l.drop k)).2 = (scanB l).2)) (fun _ s5 _ => l.length - (intOf s5).toNat)
  case atStart => exact ⟨0, none, 0, [], rfl, rfl, by omega, by simp, OwnRs.nil _ _, Below.refl _ _, ⟨by simp, by simp⟩⟩
  case round =>
    obtain ⟨k, vo, vc, L, rfl, rfl, hk, hLk, HO, HB, HE⟩ := hrel
    have hsw := HB.out.size
    by_cases hlt : k < l.length
    · obtain ⟨b, off, rfl, hb, hr⟩ := H.out.at_ (by omega)
      have hld : (l.drop k).length = l.length - k := List.length_drop
      have hat : BAt wr (some ⟨b, off + k, none⟩) (l.drop k) := by
        have := bat_cut (w := wr) (by omega) (hr.below hb HB.out) k (l.length - k)
        rwa [List.take_of_length_le (by omega)] at this
      have hdec := decode_any (some ⟨b, off + k, none⟩) (cap - k) (l.drop k) wr ⟨by omega, by omega, fun h => (nomatch h), hat⟩ (by omega)
      rw [hld] at hdec
      obtain ⟨d, n, c, hd⟩ : ∃ d n c, decB (l.drop k) = (d, n, c) := ⟨_, _, _, rfl⟩
      have hok := fun h => dec_ok (l := l.drop k) h
      have hst := fun h => scanB_stop (l := l.drop k) h
      have hnx := fun h => scanB_next (l := l.drop k) h
      simp only [hd, hld, List.drop_drop] at hdec hok hst hnx
      have Hdec := Lib.hid hdec
      have Hok := Lib.hid hok
      have Hst := Lib.hid hst
      have Hnx := Lib.hid hnx
      clear hdec hok hst hnx hld hat hd hr
      by_cases hc : c = 0
      · subst hc
        obtain ⟨hn1, hn2⟩ := Hok.out rfl
        have hnx := Hnx.out rfl
        have Hnx2 := Lib.hid hnx
        clear hnx Hok Hst Hnx
        go_wp2_with fail
        refine Hdec.out.mono ?_
        rintro e w1 ⟨ro, rc, rfl, ho, hb1⟩
        simp only
        have HOB := Lib.hid ho
        have Hb1 := Lib.hid hb1
        have hs1 := hb1.size
        have Hgr := Lib.hid ((HO.out.grow hb1).own)
        clear ho hb1
        go_wp2_with (at_builtin; go_must (refine wpList_append_foot _ rfl (.tmp 23) (.tmp 25) 30 rfl w.heap.size 22 i0 (.slice none 0 0) 1 24 Try.underlying30 hi hz0 hz1 hz2 rfl (by decide) vo L.length vc (L.map slV) rfl (Hgr.out.alloc _) (some ⟨w1.heap.size, 0, none⟩) 1 1 [.slice ro d.length rc] rfl (fun h => (nomatch h)) rfl (one_val w1 _ _) (by simp [Value.oneCell']) (by unfold maxLen; omega) (by omega) (by simp; omega) ?_))
        intro co c' w3 hown hgrow hco
        have hO3 := OwnRs.append HO.out Hb1.out HOB.out hown hgrow hco
        have hb3 : Below w.heap.size w w3 := below_grown ((HB.out.trans (Hb1.out.mono hsw)).alloc (by omega) _) (by simp; omega) hgrow (fun q hq => own_block (HO.out.own) hq)
        have HO3 := Lib.hid hO3
        have HB3 := Lib.hid hb3
        clear hown hgrow hco hO3 hb3
        go_wp2_with fail
        go_roundw
        case rel => exact ⟨k + n, co, c', L ++ [⟨ro, rc, d⟩], by go_num, by rw [List.length_append]; rfl, by omega, by rw [List.length_append]; simp; omega, HO3, HB3, by
          obtain ⟨a1, a2⟩ := HE.out
          rw [Hnx2.out] at a1 a2
          refine ⟨?_, ?_⟩
          · rw [List.map_append, List.append_assoc]; exact a1
          · rw [← a2]; simp only; omega⟩
        case measure => simp [intOf]; omega
      · have hz := Hst.out (.inr hc)
        have hcb : ((c : Int) != 0) = true := by simp; omega
        have Hz := Lib.hid hz
        clear hz Hok Hst Hnx
        go_wp2_with fail
        refine Hdec.out.mono ?_
        rintro e w1 ⟨ro, rc, rfl, ho, hb1⟩
        simp only
        have Hb1 := Lib.hid (HB.out.trans (hb1.mono hsw))
        have HO1 := Lib.hid (HO.out.grow hb1)
        clear ho hb1
        go_wp2_with fail
        go_ret2
        obtain ⟨a1, a2⟩ := HE.out
        rw [Hz.out] at a1 a2
        exact ⟨vo, vc, L, by rw [← a2]; rfl, HO1.out, by rw [← a1]; simp, Hb1.out⟩
    · have hz : scanB (l.drop k) = ([], 0) := scanB_stop (.inl (List.drop_eq_nil_of_le (by omega)))
      have Hz := Lib.hid hz
      clear hz
      go_wp2_with fail
      go_ret2
      obtain ⟨a1, a2⟩ := HE.out
      rw [Hz.out] at a1 a2
      exact ⟨vo, vc, L, by rw [← a2]; rfl, HO.out, by rw [← a1]; simp, HB.out⟩
set_option maxHeartbeats 4000000 in
theorem scansatrapyref2_any (ao : Option Addr) (cap : Nat) (l : List UInt8) (w : World) (h : Sl w ao cap l) (hm : l.length ≤ 1000000) :
    Calls Try.prog 19 #[.slice ao l.length cap] w (ScanPost w (scanB l)) := by
  obtain ⟨i0, hi, hz0, hz1, hz2⟩ := info_parts rowsInfo
  have H := Lib.hid h
  have hlc := h.le
  have hcm := h.cm
  clear h
  go_enter Try.func19, Try.ntmps19
  go_wp2_with fail
  go_loopw [4, 5] (fun s4 s5 wr => ∃ (k : Nat) (vo : Option Addr) (vc : Nat) (L : List RowR), s5 = .int .i64 k ∧ s4 = .slice vo L.length vc ∧ k ≤ l.length ∧ L.length ≤ k ∧ Hid (OwnRs wr w.heap.size vo vc L) ∧ Hid (Below w.heap.size w wr) ∧ Hid (L.map (·.bs) ++ (scanB (l.drop k)).1 = (scanB l).1 ∧ k + (scanB (l.drop k)).2 = (scanB l).2)) (fun _ s5 _ => l.length - (intOf s5).toNat)
  case atStart => exact ⟨0, none, 0, [], rfl, rfl, by omega, by simp, OwnRs.nil _ _, Below.refl _ _, ⟨by simp, by simp⟩⟩
  case round =>
    obtain ⟨k, vo, vc, L, rfl, rfl, hk, hLk, HO, HB, HE⟩ := hrel
    have hsw := HB.out.size
    by_cases hlt : k < l.length
    · obtain ⟨b, off, rfl, hb, hr⟩ := H.out.at_ (by omega)
      have hld : (l.drop k).length = l.length - k := List.length_drop
      have hat : BAt wr (some ⟨b, off + k, none⟩) (l.drop k) := by
        have := bat_cut (w := wr) (by omega) (hr.below hb HB.out) k (l.length - k)
        rwa [List.take_of_length_le (by omega)] at this
      have hdec := refDecode_any (some ⟨b, off + k, none⟩) (cap - k) (l.drop k) wr ⟨by omega, by omega, fun h => (nomatch h), hat⟩ (by omega)
      rw [hld] at hdec
      obtain ⟨d, n, c, hd⟩ : ∃ d n c, decB (l.drop k) = (d, n, c) := ⟨_, _, _, rfl⟩
      have hok := fun h => dec_ok (l := l.drop k) h
      have hst := fun h => scanB_stop (l := l.drop k) h
      have hnx := fun h => scanB_next (l := l.drop k) h
      simp only [hd, hld, List.drop_drop] at hdec hok hst hnx
      have Hdec := Lib.hid hdec
      have Hok := Lib.hid hok
      have Hst := Lib.hid hst
      have Hnx := Lib.hid hnx
      clear hdec hok hst hnx hld hat hd hr
      by_cases hc : c = 0
      · subst hc
        obtain ⟨hn1, hn2⟩ := Hok.out rfl
        have hnx := Hnx.out rfl
        have Hnx2 := Lib.hid hnx
        clear hnx Hok Hst Hnx
        go_wp2_with fail
        refine Hdec.out.mono ?_
        rintro e w1 ⟨ro, rc, rfl, ho, hb1⟩
        simp only
        have HOB := Lib.hid ho
        have Hb1 := Lib.hid hb1
        have hs1 := hb1.size
        have Hgr := Lib.hid ((HO.out.grow hb1).own)
        clear ho hb1
        go_wp2_with (at_builtin; go_must (refine wpList_append_foot _ rfl (.tmp 23) (.tmp 25) 30 rfl w.heap.size 22 i0 (.slice none 0 0) 1 24 Try.underlying30 hi hz0 hz1 hz2 rfl (by decide) vo L.length vc (L.map slV) rfl (Hgr.out.alloc _) (some ⟨w1.heap.size, 0, none⟩) 1 1 [.slice ro d.length rc] rfl (fun h => (nomatch h)) rfl (one_val w1 _ _) (by simp [Value.oneCell']) (by unfold maxLen; omega) (by omega) (by simp; omega) ?_))
        intro co c' w3 hown hgrow hco
        have hO3 := OwnRs.append HO.out Hb1.out HOB.out hown hgrow hco
        have hb3 : Below w.heap.size w w3 := below_grown ((HB.out.trans (Hb1.out.mono hsw)).alloc (by omega) _) (by simp; omega) hgrow (fun q hq => own_block (HO.out.own) hq)
        have HO3 := Lib.hid hO3
        have HB3 := Lib.hid hb3
        clear hown hgrow hco hO3 hb3
        go_wp2_with fail
        go_roundw
        case rel => exact ⟨k + n, co, c', L ++ [⟨ro, rc, d⟩], by go_num, by rw [List.length_append]; rfl, by omega, by rw [List.length_append]; simp; omega, HO3, HB3, by
          obtain ⟨a1, a2⟩ := HE.out
          rw [Hnx2.out] at a1 a2
          refine ⟨?_, ?_⟩
          · rw [List.map_append, List.append_assoc]; exact a1
          · rw [← a2]; simp only; omega⟩
        case measure => simp [intOf]; omega
      · have hz := Hst.out (.inr hc)
        have hcb : ((c : Int) != 0) = true := by simp; omega
        have Hz := Lib.hid hz
        clear hz Hok Hst Hnx
        go_wp2_with fail
        refine Hdec.out.mono ?_
        rintro e w1 ⟨ro, rc, rfl, ho, hb1⟩
        simp only
        have Hb1 := Lib.hid (HB.out.trans (hb1.mono hsw))
        have HO1 := Lib.hid (HO.out.grow hb1)
        clear ho hb1
        go_wp2_with fail
        go_ret2
        obtain ⟨a1, a2⟩ := HE.out
        rw [Hz.out] at a1 a2
        exact ⟨vo, vc, L, by rw [← a2]; rfl, HO1.out, by rw [← a1]; simp, Hb1.out⟩
    · have hz : scanB (l.drop k) = ([], 0) := scanB_stop (.inl (List.drop_eq_nil_of_le (by omega)))
      have Hz := Lib.hid hz
      clear hz
      go_wp2_with fail
      go_ret2
      obtain ⟨a1, a2⟩ := HE.out
      rw [Hz.out] at a1 a2
      exact ⟨vo, vc, L, by rw [← a2]; rfl, HO.out, by rw [← a1]; simp, HB.out⟩
end Go.Proofs.Ytgbhbhmjolihnaa
