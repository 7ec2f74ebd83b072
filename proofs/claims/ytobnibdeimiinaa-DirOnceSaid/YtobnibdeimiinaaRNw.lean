/- The contract of the document's New. -/
import Derived.Test.YtobnibdeimiinaaRHo
import Derived.Test.YtobnibdeimiinaaRIn
import Derived.Test.YtobnibdeimiinaaBs
namespace Go.Proofs.Ytobnibdeimiinaa
open Go.RowKit

theorem St.new2 {W w w' : World} {L : List Th} (h : St W w L) (b : Below w.heap.size w w') (t u : Th) (ht : t.T w') (hu : u.T w') (hFt : ∀ x, t.F x → w.heap.size ≤ x) (hFu : ∀ x, u.F x → w.heap.size ≤ x) (hne : ∀ x, t.F x → ¬ u.F x) : St W w' (t :: u :: L) := by
  have h1 := h.new b u hu hFu
  refine ⟨h1.b, ht, fun x hx => Nat.le_trans h.b.size (hFt x hx), fun v hv x hx hvx => ?_, h1.t⟩
  rcases List.mem_cons.1 hv with e | e
  · subst e; exact hne x hx hvx
  · have := (h.t.lts v e x hvx).1
    have := hFt x hx
    omega
theorem ints_shape {w : World} {base n : Nat} {v : Value} {l : List Int} (h : w.ownsRow base 3 1 v n (l.map (.int .i64))) (hn : n = l.length) (hp : 0 < n) : ∃ b c cur, v = .slice (some ⟨b, 0, none⟩) l.length c ∧ (thInts base b c l).T w ∧ base ≤ b ∧ w.heap[b]? = some (.cells cur 3 (0, 0)) := by
  subst hn
  rcases h.2 with ⟨hv, h0⟩ | ⟨g, c, cur, hv, hg, hh, -⟩
  · omega
  · exact ⟨g, c, cur, hv, by show w.ownsRow _ _ _ _ _ _; rw [hv] at h; exact h, hg, hh⟩
theorem zone_own {w : World} {base g cap : Nat} {l : List Zn} (h : OwnZ w base g cap l) : ∃ cur, w.heap[g]? = some (.cells cur 39 (0, 0)) := by
  obtain ⟨cur, hh, -⟩ := h.block
  exact ⟨cur, hh⟩
theorem ne_types {w : World} {a b : Nat} {x y : Array Value} (h : w.heap[a]? = some (.cells x 3 (0, 0))) (k : w.heap[b]? = some (.cells y 39 (0, 0))) : b ≠ a := by
  intro e
  subst e
  rw [h] at k
  simp at k
theorem one_zone (w : World) (n : Nat) (hn : n = w.heap.size) (base : Nat) (hb : base ≤ n) (z : Zn) (vs : Array Value) (hv : vs = (znV z).toArray) : OwnZ (w.alloc (.cells vs 39)) base n 1 [z] := by
  subst hn hv
  have := World.ownsRow_lit w (znV z).toArray 1 (Nat.le_refl _) (by unfold maxLen; omega) (by rfl : (znV z).toArray.size = 1 * 9) (e := 39)
  refine OwnZ.weak (base := w.heap.size) ?_ hb
  unfold OwnZ
  simpa [znR] using this
theorem new_fin {ty : TypeId} {W wa wx : World} {L : List Th} (h : St W wa L) (hbw : Below wa.heap.size wa wx) {gz b' c' : Nat} {l : List Int} {z : Zn} {cur : Array Value} (hz : OwnZ wx wa.heap.size gz 1 [z]) (hi' : (thInts wa.heap.size b' c' l).T wx) (hh : wx.heap[b']? = some (.cells cur 3 (0, 0))) (hb : wa.heap.size ≤ b') (m : Mp) (ho : Option Addr) (hl hc : Nat) (hm : m.zs = [z]) :
    St W (wx.alloc (.cells (dirCells m gz 1 ho hl hc) ty)) (thDir ty W.heap.size wx.heap.size gz 1 m ho hl hc :: thInts W.heap.size b' c' l :: L) := by
  obtain ⟨cz, hcz⟩ := zone_own hz
  have hne := ne_types hh hcz
  have hzf := hz.facts
  have S := h.new2 hbw (thZ W.heap.size gz 1 m.zs) (thInts W.heap.size b' c' l) (by rw [hm]; exact hz.weak h.b.size) (owns_weak hi' h.b.size) (fun x e => by rw [show x = gz from e]; exact hzf.1) (fun x e => by rw [show x = b' from e]; exact hb) (fun x e1 e2 => hne (by rw [← show x = gz from e1, ← show x = b' from e2]))
  exact S.boxDir (ty := ty) (ho := ho) (hl := hl) (hc := hc)
set_option maxRecDepth 20000 in
set_option maxHeartbeats 4000000 in
theorem rnew_any {W w : World} {L : List Th} (h : St W w L) (ao : Option Addr) (hc : Nat) (l : List Int) (ha : IAtD w ao l) (hm : l.length ≤ 1000) :
    Calls Try.prog 45 #[.slice ao l.length hc] w (NewPost 49 W L l 1) := by
  have H := Lib.hid h
  have Ha := Lib.hid ha
  obtain ⟨r, hr⟩ : ∃ r, r = hostsB l := ⟨_, rfl⟩
  have har := fun w h => rhosts_any ao hc l w h hm
  rw [← hr] at har
  have Har := Lib.hid har
  have Hr := Lib.hid hr
  clear h ha har hr
  cases r with
  | false =>
    go_enter Try.func45, Try.ntmps45
    go_wp2_with fail
    refine (Har.out _ Ha.out).mono ?_
    rintro e w1 ⟨rfl, w1_b⟩
    go_wp2_with fail
    go_ret2
    unfold NewPost
    rw [← Hr.out, if_neg (by decide)]
    exact ⟨rfl, H.out.grow w1_b⟩
  | true =>
    obtain ⟨hin, hl1, hl2⟩ := hostsB_in Hr.out.symm
    obtain ⟨v, hv⟩ : ∃ v, v = l.getD 0 0 := ⟨_, rfl⟩
    obtain ⟨b, off, rfl, hb, hcell⟩ := Ha.out (by omega)
    have hv2 : l[0] = v := by rw [hv]; simp [List.getElem?_eq_getElem (show 0 < l.length by omega)]
    have d0 := hcell 0 (by omega)
    rw [hv2, Nat.add_zero] at d0
    have Hv := Lib.hid hv
    have Hcl := Lib.hid hcell
    obtain ⟨i0, hi, hz0, hz1, hz2⟩ := info_parts intInfo
    clear hv hv2 hcell hin
    go_enter Try.func45, Try.ntmps45
    go_wp2_with fail
    refine (Har.out _ Ha.out).mono ?_
    rintro e w1 ⟨rfl, w1_b⟩
    go_wp2_with fail
    have w1_le := w1_b.size
    have hb1 := Nat.lt_of_lt_of_le hb w1_le
    have d1 := (w1_b.cell (p := ⟨b, off, none⟩) hb).trans d0
    (refine wp_name fun wa hwa => ?_; have wa_s0 : b < wa.heap.size := (by rw [hwa]; first | omega | (simp; done) | (simp; omega)); have wa_c0 : wa.cell? ⟨b, off, none⟩ = some (.int .i64 v) := (by rw [hwa]; go_simp); have wa_b : Below w.heap.size w wa := (by rw [hwa]; exact (by repeat (first | with_reducible exact Below.refl _ _ | with_reducible assumption | with_reducible refine Below.drew ?_ | with_reducible refine below_drawn ?_ | with_reducible refine Below.alloc ?_ (by first | omega | (simp; done) | (simp; omega) | (simp at *; omega)) _ | with_reducible refine Below.setCell ?_ (by first | omega | (simp; done) | (simp; omega) | (simp at *; omega)) _ | with_reducible refine Below.trans ?_ (Below.mono (by assumption) (by first | omega | (simp; done) | (simp; omega) | (simp at *; omega)))))); clear hwa)
    have wa_le := wa_b.size
    have hlen : 0 < l.length := by omega
    have Hin : Hid (∀ (w' : World), Below wa.heap.size wa w' → ∀ ad, (some ⟨b, off, none⟩ : Option Addr) = some ad → ∀ j u, (l.map (Value.int .i64))[j]? = some u → w'.cell? (ad.add j) = some u) := by
      intro w' hb' ad e j u hu
      obtain rfl := Option.some.inj e
      obtain ⟨hj, hu'⟩ := List.getElem?_eq_some_iff.1 hu
      rw [List.length_map] at hj
      rw [add_none, (bcell hb').1 _ _ wa_s0, wa_b.cell (p := ⟨b, _, none⟩) hb, Hcl.out j hj, ← hu']
      simp
    have Hll : Hid ((l.map (Value.int .i64)).length = l.length * 1) := Lib.hid (by simp)
    have Hone : Hid (∀ u ∈ l.map (Value.int .i64), u.oneCell' = true) := Lib.hid (by intro u hu; obtain ⟨x, -, rfl⟩ := List.mem_map.1 hu; rfl)
    clear d0 d1
    go_region_held3 (fun W => Below wa.heap.size wa W ∧ ∀ b o, b < wa.heap.size → W.cell? ⟨b, o, none⟩ = wa.cell? ⟨b, o, none⟩) (first | with_reducible exact stay_al (by assumption) | (first | exact stay_drew _ | exact stay_next (by assumption) (by assumption) | exact stay_mk (by repeat (first | with_reducible exact Below.refl _ _ | with_reducible exact stay_below (by assumption) | with_reducible refine Below.drew ?_ | with_reducible refine Below.alloc ?_ (by first | omega | (simp; done) | (simp; omega) | (simp at *; omega)) _ | with_reducible refine Below.setCell ?_ (by first | omega | (simp; done) | (simp; omega) | (simp at *; omega)) _ | with_reducible refine Below.trans ?_ (Below.mono (by assumption) (by first | omega | (simp; done) | (simp; omega) | (simp at *; omega))))))) (first | ((refine step_append_any _ (by rfl) (.tmp 13) (.tmp 14) 43 (by rfl) wa.heap.size 3 i0 (.int .i64 0) 1 8 Try.underlying43 hi hz0 hz1 hz2 rfl (by decide) (.slice (some ⟨wa.heap.size, 0, none⟩) 0 0) 0 [] (by rfl) ?_ (some ⟨b, off, none⟩) l.length hc (l.map (.int .i64)) (by first | rfl | simp) (fun h => (nomatch h)) Hll.out ?_ Hone.out (by unfold maxLen; omega) (by omega) ?_ ?_); (exact (by first | exact owns_drew (owns_emptyAt _ _ (by first | rfl | (simp; done)) _ (by first | omega | (simp; done)) _ _) | exact owns_drew (World.ownsRow.alloc (owns_emptyAt _ _ (by first | rfl | (simp; done)) _ (by first | omega | (simp; done)) _ _) _) | exact owns_emptyAt _ _ (by first | rfl | (simp; done)) _ (by first | omega | (simp; done)) _ _ | exact World.ownsRow.alloc (owns_emptyAt _ _ (by first | rfl | (simp; done)) _ (by first | omega | (simp; done)) _ _) _)); (go_must (exact Hin.out _ (by repeat (first | with_reducible exact Below.refl _ _ | with_reducible assumption | with_reducible refine Below.drew ?_ | with_reducible refine below_drawn ?_ | with_reducible refine Below.alloc ?_ (by first | omega | (simp; done) | (simp; omega) | (simp at *; omega)) _ | with_reducible refine Below.setCell ?_ (by first | omega | (simp; done) | (simp; omega) | (simp at *; omega)) _ | with_reducible refine Below.trans ?_ (Below.mono (by assumption) (by first | omega | (simp; done) | (simp; omega) | (simp at *; omega))))))); (focus first | (simp; done) | (simp; omega)); intro v15 w15 hown hgrow; (have hgk := Keeps.grown hgrow); (have hgz := hgrow.size); (have hbw : Below wa.heap.size wa w15 := (by (refine below_grown (by repeat (first | with_reducible exact Below.refl _ _ | with_reducible assumption | with_reducible refine Below.drew ?_ | with_reducible refine below_drawn ?_ | with_reducible refine Below.alloc ?_ (by first | omega | (simp; done) | (simp; omega) | (simp at *; omega)) _ | with_reducible refine Below.setCell ?_ (by first | omega | (simp; done) | (simp; omega) | (simp at *; omega)) _ | with_reducible refine Below.trans ?_ (Below.mono (by assumption) (by first | omega | (simp; done) | (simp; omega) | (simp at *; omega))))) (by first | (simp; done) | (simp; omega)) hgrow (fun k hk => ?_); (simp only [Value.ownBlock, Option.some.injEq] at hk); subst hk; first | (simp; done) | (simp; omega)))); (obtain ⟨b', c', cur, rfl, hi', hbb, hhh⟩ := ints_shape (l := l) (by rw [List.nil_append] at hown; exact hown) (Nat.zero_add _) (by omega)); clear hgrow hown) | ((refine step_append_any _ (by rfl) (.tmp 13) (.tmp 14) 43 (by rfl) wa.heap.size 3 i0 (.int .i64 0) 1 8 Try.underlying43 hi hz0 hz1 hz2 rfl (by decide) (.slice (some ⟨wa.heap.size + 1, 0, none⟩) 0 0) 0 [] (by rfl) ?_ (some ⟨b, off, none⟩) l.length hc (l.map (.int .i64)) (by first | rfl | simp) (fun h => (nomatch h)) Hll.out ?_ Hone.out (by unfold maxLen; omega) (by omega) ?_ ?_); (exact (by first | exact owns_drew (owns_emptyAt _ _ (by first | rfl | (simp; done)) _ (by first | omega | (simp; done)) _ _) | exact owns_drew (World.ownsRow.alloc (owns_emptyAt _ _ (by first | rfl | (simp; done)) _ (by first | omega | (simp; done)) _ _) _) | exact owns_emptyAt _ _ (by first | rfl | (simp; done)) _ (by first | omega | (simp; done)) _ _ | exact World.ownsRow.alloc (owns_emptyAt _ _ (by first | rfl | (simp; done)) _ (by first | omega | (simp; done)) _ _) _)); (go_must (exact Hin.out _ (by repeat (first | with_reducible exact Below.refl _ _ | with_reducible assumption | with_reducible refine Below.drew ?_ | with_reducible refine below_drawn ?_ | with_reducible refine Below.alloc ?_ (by first | omega | (simp; done) | (simp; omega) | (simp at *; omega)) _ | with_reducible refine Below.setCell ?_ (by first | omega | (simp; done) | (simp; omega) | (simp at *; omega)) _ | with_reducible refine Below.trans ?_ (Below.mono (by assumption) (by first | omega | (simp; done) | (simp; omega) | (simp at *; omega))))))); (focus first | (simp; done) | (simp; omega)); intro v15 w15 hown hgrow; (have hgk := Keeps.grown hgrow); (have hgz := hgrow.size); (have hbw : Below wa.heap.size wa w15 := (by (refine below_grown (by repeat (first | with_reducible exact Below.refl _ _ | with_reducible assumption | with_reducible refine Below.drew ?_ | with_reducible refine below_drawn ?_ | with_reducible refine Below.alloc ?_ (by first | omega | (simp; done) | (simp; omega) | (simp at *; omega)) _ | with_reducible refine Below.setCell ?_ (by first | omega | (simp; done) | (simp; omega) | (simp at *; omega)) _ | with_reducible refine Below.trans ?_ (Below.mono (by assumption) (by first | omega | (simp; done) | (simp; omega) | (simp at *; omega))))) (by first | (simp; done) | (simp; omega)) hgrow (fun k hk => ?_); (simp only [Value.ownBlock, Option.some.injEq] at hk); subst hk; first | (simp; done) | (simp; omega)))); (obtain ⟨b', c', cur, rfl, hi', hbb, hhh⟩ := ints_shape (l := l) (by rw [List.nil_append] at hown; exact hown) (Nat.zero_add _) (by omega)); clear hgrow hown) | fail)
    all_goals (go_wp2_with fail; go_ret2; unfold NewPost; rw [← Hr.out, if_pos rfl])
    · refine ⟨w15.heap.size, wa.heap.size, 1, b', c', rfl, ?_⟩
      rw [← Hv.out]
      have hz : OwnZ w15 wa.heap.size wa.heap.size 1 [Zn.mk 1 z0 z0 v 1 0 0 z0 0] := OwnZ.keeps ((one_zone wa.drew wa.heap.size rfl wa.heap.size (Nat.le_refl _) (Zn.mk 1 z0 z0 v 1 0 0 z0 0) _ rfl).keeps (keeps_same0 (below_allocO _ _) (fun _ => False)) (fun e => e)) hgk (by simp [Value.ownBlock])
      exact new_fin (H.out.grow wa_b) hbw hz hi' hhh hbb (firstM v) (some ⟨b', 0, none⟩) l.length c' rfl
    · refine ⟨w15.heap.size, wa.heap.size + 1, 1, b', c', rfl, ?_⟩
      rw [← Hv.out]
      have hz : OwnZ w15 wa.heap.size (wa.heap.size + 1) 1 [Zn.mk 1 z0 z0 v 1 0 0 z0 0] := OwnZ.keeps (one_zone (wa.drew.alloc (.cells #[] 3)) (wa.heap.size + 1) (by simp) wa.heap.size (Nat.le_succ _) (Zn.mk 1 z0 z0 v 1 0 0 z0 0) _ rfl) hgk (by simp [Value.ownBlock])
      exact new_fin (H.out.grow wa_b) hbw hz hi' hhh hbb (firstM v) (some ⟨b', 0, none⟩) l.length c' rfl
    · refine ⟨w15.heap.size + 1, w15.heap.size, 1, b', c', rfl, ?_⟩
      rw [← Hv.out]
      have k := below_allocO w15 (.cells (znV (Zn.mk 1 z0 z0 v 1 0 0 z0 0)).toArray 39)
      have hz := one_zone w15 w15.heap.size rfl wa.heap.size hbw.size (Zn.mk 1 z0 z0 v 1 0 0 z0 0) _ rfl
      have hh2 := (k.block b' (lt_of_block hhh)).trans hhh
      have hi2 := (thInts wa.heap.size b' c' l).stay hi' (keeps_same0 k (fun _ => False)) (fun _ _ e => e)
      have S := new_fin (ty := 49) (H.out.grow wa_b) (hbw.trans (k.mono hbw.size)) hz hi2 hh2 hbb (firstM v) (some ⟨b', 0, none⟩) l.length c' rfl
      have hs : (w15.alloc (.cells (znV (Zn.mk 1 z0 z0 v 1 0 0 z0 0)).toArray 39)).heap.size = w15.heap.size + 1 := by simp
      rw [hs] at S
      exact S
end Go.Proofs.Ytobnibdeimiinaa
