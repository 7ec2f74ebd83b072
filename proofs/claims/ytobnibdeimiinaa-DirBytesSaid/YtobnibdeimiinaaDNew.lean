/- The contracts of areHosts, slices.Clone of ints, New. -/
import Derived.Test.YtobnibdeimiinaaDOwn
namespace Go.Proofs.Ytobnibdeimiinaa
open Go.RowKit

def okH (l : List Int) (i : Nat) : Bool := decide (8 ≤ l.getD i 0) && (decide (l.getD i 0 < 14) && (decide (i = 0) || decide (l.getD (i - 1) 0 < l.getD i 0)))
def hostsB (l : List Int) : Bool := (List.range l.length).all (okH l) && (decide (1 ≤ l.length) && decide (l.length ≤ 6))
theorem hostsB_bad {l : List Int} {i : Nat} (hi : i < l.length) (h : okH l i = false) : hostsB l = false := by
  unfold hostsB
  rw [Bool.and_eq_false_iff]
  left
  rw [List.all_eq_false]
  exact ⟨i, by simpa using hi, by rw [h]; decide⟩
theorem hostsB_end {l : List Int} (h : ∀ i, i < l.length → okH l i = true) : hostsB l = (decide (1 ≤ l.length) && decide (l.length ≤ 6)) := by
  unfold hostsB
  rw [List.all_eq_true.2 (fun i hi => h i (by simpa using hi)), Bool.true_and]
theorem hostsB_in {l : List Int} (h : hostsB l = true) : (∀ n ∈ l, 1 ≤ n ∧ n ≤ 1048576) ∧ 1 ≤ l.length ∧ l.length ≤ 6 := by
  unfold hostsB at h
  simp only [Bool.and_eq_true, decide_eq_true_eq, List.all_eq_true] at h
  refine ⟨fun n hn => ?_, h.2.1, h.2.2⟩
  obtain ⟨i, hi, rfl⟩ := List.getElem_of_mem hn
  have := h.1 i (by simpa using hi)
  simp only [okH, Bool.and_eq_true, decide_eq_true_eq, List.getD_eq_getElem?_getD, List.getElem?_eq_getElem hi, Option.getD_some] at this
  omega
set_option maxRecDepth 20000 in
set_option maxHeartbeats 2000000 in
theorem areHosts_any (ao : Option Addr) (hc : Nat) (l : List Int) (w : World) (h : IAtD w ao l) (hm : l.length ≤ 1000) :
    Calls Try.prog 34 #[.slice ao l.length hc] w fun e w' => e = .returned (.bool (hostsB l)) ∧ Below w.heap.size w w' := by
  have H := Lib.hid h
  clear h
  go_enter Try.func34, Try.ntmps34
  go_wp2_with fail
  go_loopw [7] (fun s wr => ∃ i : Nat, s = .int .i64 i ∧ i ≤ l.length ∧ Hid (∀ j, j < i → okH l j = true) ∧ Below w.heap.size w wr) (fun s _ => l.length - (intOf s).toNat)
  case atStart => exact ⟨0, rfl, by omega, fun j hj => by omega, Below.refl _ _⟩
  case round =>
    obtain ⟨i, rfl, hi, hne, wr_b⟩ := hrel
    by_cases hlt : i < l.length
    · obtain ⟨b, off, rfl, hb, hcell⟩ := H.out (by omega)
      have d0 := (wr_b.cell (p := ⟨b, off + i, none⟩) hb).trans (hcell i hlt)
      have hs := wr_b.size
      obtain ⟨v, hv⟩ : ∃ v, v = l.getD i 0 := ⟨_, rfl⟩
      have hv2 : l[i] = v := by rw [hv]; simp [List.getElem?_eq_getElem hlt]
      rw [hv2] at d0
      have Hv := Lib.hid hv
      clear hv hv2
      by_cases h1 : v < 8
      · have e1 : decide (v < 8) = true := by rw [decide_eq_true_eq]; exact h1
        clear hcell
        (have hbad : Hid (hostsB l = false) := Lib.hid (hostsB_bad hlt (by unfold okH; simp only [← Hv.out]; simp; omega))); (go_wp2_with fail); go_ret; exact ⟨by rw [hbad.out]; rfl, wr_b⟩
      · have e1 : decide (v < 8) = false := by rw [decide_eq_false_iff_not]; exact h1
        by_cases h2 : 14 ≤ v
        · have e2 : decide (14 ≤ v) = true := by rw [decide_eq_true_eq]; exact h2
          clear hcell
          (have hbad : Hid (hostsB l = false) := Lib.hid (hostsB_bad hlt (by unfold okH; simp only [← Hv.out]; simp; omega))); (go_wp2_with fail); go_ret; exact ⟨by rw [hbad.out]; rfl, wr_b⟩
        · have e2 : decide (14 ≤ v) = false := by rw [decide_eq_false_iff_not]; exact h2
          by_cases h3 : i = 0
          · subst h3
            rw [Nat.add_zero] at d0
            have hok : Hid (okH l 0 = true) := by unfold okH; simp only [← Hv.out]; simp [Hid]; omega
            clear hcell
            go_wp2_with fail
            go_roundw
            case rel => exact ⟨1, by go_num, by omega, fun j hj => by
              obtain rfl : j = 0 := by omega
              exact hok.out, wr_b⟩
            case measure => simp [intOf]; omega
          · obtain ⟨k, rfl⟩ : ∃ k, i = k + 1 := ⟨i - 1, by omega⟩
            have d1 := (wr_b.cell (p := ⟨b, off + k, none⟩) hb).trans (hcell k (by omega))
            obtain ⟨u, hu⟩ : ∃ u, u = l.getD k 0 := ⟨_, rfl⟩
            have hu2 : l[k] = u := by rw [hu]; simp [List.getElem?_eq_getElem (show k < l.length by omega)]
            rw [hu2] at d1
            have Hu := Lib.hid hu
            clear hu hu2 hcell
            have e3 : ((k + 1 : Nat) : Int) - 1 = k := by omega
            by_cases h4 : v ≤ u
            · have e4 : decide (v ≤ u) = true := by rw [decide_eq_true_eq]; exact h4
              have hbad : Hid (hostsB l = false) := Lib.hid (hostsB_bad hlt (by unfold okH; simp only [← Hv.out, Nat.add_sub_cancel, ← Hu.out]; simp; omega))
              go_wp2_with fail
              go_ret
              exact ⟨by rw [hbad.out]; rfl, wr_b⟩
            · have e4 : decide (v ≤ u) = false := by rw [decide_eq_false_iff_not]; exact h4
              have hok : Hid (okH l (k + 1) = true) := by unfold okH; simp only [← Hv.out, Nat.add_sub_cancel, ← Hu.out]; simp [Hid]; omega
              go_wp2_with fail
              go_roundw
              case rel => exact ⟨k + 2, by go_num, by omega, fun j hj => by
                by_cases h : j = k + 1
                · rw [h]; exact hok.out
                · exact hne.out j (by omega), wr_b⟩
              case measure => simp [intOf]; omega
    · have hend := hostsB_end (l := l) (fun j hj => hne.out j (by omega))
      have Hend := Lib.hid hend
      clear hend
      by_cases q1 : 1 ≤ l.length
      · by_cases q2 : l.length ≤ 6
        · have q3 : decide (l.length ≤ 6) = true := by rw [decide_eq_true_eq]; exact q2
          have q5 : decide ((l.length : Int) ≤ 6) = true := by rw [decide_eq_true_eq]; omega
          have q4 : decide (1 ≤ l.length) = true := by rw [decide_eq_true_eq]; exact q1
          go_wp2_with fail
          go_ret
          exact ⟨by rw [Hend.out, q3, q4]; rfl, wr_b⟩
        · have q3 : decide (l.length ≤ 6) = false := by rw [decide_eq_false_iff_not]; exact q2
          have q5 : decide ((l.length : Int) ≤ 6) = false := by rw [decide_eq_false_iff_not]; omega
          have q4 : decide (1 ≤ l.length) = true := by rw [decide_eq_true_eq]; exact q1
          go_wp2_with fail
          go_ret
          exact ⟨by rw [Hend.out, q3, q4]; rfl, wr_b⟩
      · have q4 : decide (1 ≤ l.length) = false := by rw [decide_eq_false_iff_not]; exact q1
        go_wp2_with fail
        go_ret
        exact ⟨by rw [Hend.out, q4]; rfl, wr_b⟩
theorem intInfo : (Try.prog.info? 3).map (fun i => (i.zero, i.size, i.bytes)) = some (some (.int .i64 0), 1, 8) := by kernel_rfl
def FreshI (w : World) (l : List Int) (e : Ending) (w' : World) : Prop := ∃ b c', e = .returned (.slice (some ⟨b, 0, none⟩) l.length c') ∧ (thInts w.heap.size b c' l).T w' ∧ Below w.heap.size w w'
set_option maxHeartbeats 1000000 in
theorem cloneI_any {ao : Option Addr} {zc : Nat} {l : List Int} {w : World} (h : IAtD w ao l) (hp : 0 < l.length) (hm : l.length ≤ 1000) :
    Calls Try.prog 35 #[.slice ao l.length zc] w (FreshI w l) := by
  obtain ⟨b, off, rfl, hb, hcell⟩ := h hp
  have heq := fun w => Lib.run_eql_slice_nil (P := Try.prog) w 43 3 (some ⟨b, off, none⟩) l.length zc 0 0 Try.underlying43
  obtain ⟨i0, hi, hz0, hz1, hz2⟩ := info_parts intInfo
  have Ha : Hid (∀ (w' : World), Below w.heap.size w w' → ∀ ad, (some ⟨b, off, none⟩ : Option Addr) = some ad → ∀ j u, (l.map (Value.int .i64))[j]? = some u → w'.cell? (ad.add j) = some u) := by
    intro w' hb' ad e j u hu
    obtain rfl := Option.some.inj e
    obtain ⟨hj, hu'⟩ := List.getElem?_eq_some_iff.1 hu
    rw [List.length_map] at hj
    rw [add_none, (bcell hb').1 _ _ hb, hcell j hj, ← hu']
    simp
  clear h hcell
  go_enter Try.func35, Try.ntmps35
  go_wp2_with (at_builtin; go_must (refine wpList_append_any _ rfl (.tmp 5) (.tmp 6) 43 rfl w.heap.size 3 i0 (.int .i64 0) 1 8 Try.underlying43 hi hz0 hz1 hz2 rfl (by decide) _ 0 [] rfl (owns_emptyAt _ w.heap.size rfl w.heap.size (Nat.le_refl _) 3 1) (some ⟨b, off, none⟩) l.length zc (l.map (.int .i64)) rfl (fun h => by cases h) (by simp) (Ha.out _ ((Below.refl _ _).alloc (Nat.le_refl _) _)) (by intro u hu; obtain ⟨x, -, rfl⟩ := List.mem_map.1 hu; rfl) (by unfold maxLen; omega) (by omega) (by simp) ?_))
  intro v w1 hown hgrow
  have hb1 : Below w.heap.size w w1 := below_grown ((Below.refl _ _).alloc (Nat.le_refl _) _) (by simp) hgrow (fun k hk => by simp [Value.ownBlock] at hk; omega)
  have ho : ∃ b' c', v = .slice (some ⟨b', 0, none⟩) l.length c' ∧ (thInts w.heap.size b' c' l).T w1 := by
    have hown' : w1.ownsRow w.heap.size 3 1 v l.length (l.map (.int .i64)) := by simpa using hown
    rcases hown'.2 with ⟨hv, h0⟩ | ⟨g, c, cur, hv, -⟩
    · omega
    · exact ⟨g, c, hv, by show w1.ownsRow _ _ _ _ _ _; rw [hv] at hown'; exact hown'⟩
  obtain ⟨b', c', rfl, ho⟩ := ho
  have Ho := Lib.hid ho
  clear hown hgrow ho
  go_wp2_with fail
  go_ret
  exact ⟨b', c', rfl, Ho.out, hb1⟩
theorem stay_al {w3 W : World} {o : Obj} (h : Below w3.heap.size w3 W ∧ ∀ b o, b < w3.heap.size → W.cell? ⟨b, o, none⟩ = w3.cell? ⟨b, o, none⟩) : Below w3.heap.size w3 (W.alloc o) ∧ ∀ b o', b < w3.heap.size → (W.alloc o).cell? ⟨b, o', none⟩ = w3.cell? ⟨b, o', none⟩ := stay_mk (h.1.alloc h.1.size o)
/-- A row of zones, as a thing. -/
def thZ (base g zc : Nat) (l : List Zn) : Th where
  T w := OwnZ w base g zc l
  F x := x = g
  stay h k hS := h.keeps k (hS g rfl)
  lt h hx := by rw [show _ = g from hx]; exact h.facts.2.1
theorem St.rowZ {W w : World} {L : List Th} (h : St W w L) (z : Zn) : St W (w.alloc (.cells (znV z).toArray 39)) (thZ W.heap.size w.heap.size 1 [z] :: L) := by
  refine h.new (below_allocO w _) _ ?_ (fun x e => by rw [show x = w.heap.size from e]; exact Nat.le_refl _)
  have := World.ownsRow_lit w (znV z).toArray 1 (Nat.le_refl _) (by unfold maxLen; omega) (by rfl : (znV z).toArray.size = 1 * 9) (e := 39)
  refine OwnZ.weak (base := w.heap.size) ?_ h.b.size
  unfold OwnZ
  simpa [znR] using this
theorem St.boxDir {ty : TypeId} {W w : World} {L : List Th} {g zc : Nat} {m : Mp} {ho : Option Addr} {hl hc : Nat} (h : St W w (thZ W.heap.size g zc m.zs :: L)) : St W (w.alloc (.cells (dirCells m g zc ho hl hc) ty)) (thDir ty W.heap.size w.heap.size g zc m ho hl hc :: L) := by
  have k : Keeps w (w.alloc (.cells (dirCells m g zc ho hl hc) ty)) (thZ W.heap.size g zc m.zs).F := keeps_same0 (below_allocO w _) _
  refine h.step k _ ⟨heap_new w _, h.head.keeps (keeps_same0 (below_allocO w _) (fun _ => False)) (fun e => e), fun e => ?_⟩ (fun x hx => ?_)
  · have := h.head.facts.2.1; omega
  · rcases hx with e | e
    · right; rw [e]; exact Nat.le_refl _
    · exact .inl e
theorem St.ints {W w w' : World} {L : List Th} {b c : Nat} {l : List Int} (h : St W w L) (hb : Below w.heap.size w w') (hi : (thInts w.heap.size b c l).T w') : St W w' (thInts W.heap.size b c l :: L) := by
  refine h.new hb _ (owns_weak hi h.b.size) (fun x e => ?_)
  have hi' : w'.ownsRow w.heap.size 3 1 (.slice (some ⟨b, 0, none⟩) l.length c) l.length (l.map (.int .i64)) := hi
  rcases hi'.2 with ⟨hv, -⟩ | ⟨g', c2, cur, hv, hg, -⟩
  · cases hv
  · simp only [Value.slice.injEq, Option.some.injEq, Addr.mk.injEq, and_true, true_and] at hv
    rw [show x = b from e, hv.1]; exact hg
/-- A directory that was made, or none. -/
def NewPost (ty : TypeId) (W : World) (L : List Th) (l : List Int) (err : Int) (e : Ending) (w' : World) : Prop :=
  if hostsB l = true then ∃ p g zc b c', e = .returned (.tuple #[.pointer (some ⟨p, 0, none⟩), .int .i64 0]) ∧ St W w' (thDir ty W.heap.size p g zc (firstM (l.getD 0 0)) (some ⟨b, 0, none⟩) l.length c' :: thInts W.heap.size b c' l :: L)
  else e = .returned (.tuple #[.pointer none, .int .i64 err]) ∧ St W w' L
set_option maxRecDepth 20000 in
set_option maxHeartbeats 2000000 in
theorem new_any {W w : World} {L : List Th} (h : St W w L) (ao : Option Addr) (hc : Nat) (l : List Int) (ha : IAtD w ao l) (hm : l.length ≤ 1000) :
    Calls Try.prog 13 #[.slice ao l.length hc] w (NewPost 76 W L l 1) := by
  have H := Lib.hid h
  have Ha := Lib.hid ha
  obtain ⟨r, hr⟩ : ∃ r, r = hostsB l := ⟨_, rfl⟩
  have har := fun w h => areHosts_any ao hc l w h hm
  rw [← hr] at har
  have Har := Lib.hid har
  have Hr := Lib.hid hr
  clear h ha har hr
  cases r with
  | false =>
    go_enter Try.func13, Try.ntmps13
    go_wp2_with fail
    refine (Har.out _ Ha.out).mono ?_
    rintro e w1 ⟨rfl, w1_b⟩
    go_wp2_with fail
    go_ret2
    unfold NewPost
    rw [← Hr.out, if_neg (by decide)]
    exact ⟨rfl, H.out.grow w1_b⟩
  | true =>
    obtain ⟨hin, hl1, hl2⟩ := hostsB_in Hr.out.symm
    obtain ⟨v, hv⟩ : ∃ v, v = l.getD 0 0 := ⟨_, rfl⟩
    obtain ⟨b, off, rfl, hb, hcell⟩ := Ha.out (by omega)
    have hv2 : l[0] = v := by rw [hv]; simp [List.getElem?_eq_getElem (show 0 < l.length by omega)]
    have d0 := hcell 0 (by omega)
    rw [hv2, Nat.add_zero] at d0
    have Hv := Lib.hid hv
    clear hv hv2 hcell hin
    go_enter Try.func13, Try.ntmps13
    go_wp2_with fail
    refine (Har.out _ Ha.out).mono ?_
    rintro e w1 ⟨rfl, w1_b⟩
    go_wp2_with fail
    have w1_le := w1_b.size
    have hb1 := Nat.lt_of_lt_of_le hb w1_le
    have d1 := (w1_b.cell (p := ⟨b, off, none⟩) hb).trans d0
    (refine wp_name fun wa hwa => ?_; have wa_s0 : b < wa.heap.size := (by rw [hwa]; first | omega | (simp; done) | (simp; omega)); have wa_c0 : wa.cell? ⟨b, off, none⟩ = some (.int .i64 v) := (by rw [hwa]; go_simp); have wa_b : Below w.heap.size w wa := (by rw [hwa]; exact (by repeat (first | with_reducible exact Below.refl _ _ | with_reducible assumption | with_reducible refine Below.drew ?_ | with_reducible refine below_drawn ?_ | with_reducible refine Below.alloc ?_ (by first | omega | (simp; done) | (simp; omega) | (simp at *; omega)) _ | with_reducible refine Below.setCell ?_ (by first | omega | (simp; done) | (simp; omega) | (simp at *; omega)) _ | with_reducible refine Below.trans ?_ (Below.mono (by assumption) (by first | omega | (simp; done) | (simp; omega) | (simp at *; omega)))))); clear hwa)
    have wa_le := wa_b.size
    have hlen : 0 < l.length := by omega
    clear d0 d1 hl1 hl2
    go_region_held3 (fun W => Below wa.heap.size wa W ∧ ∀ b o, b < wa.heap.size → W.cell? ⟨b, o, none⟩ = wa.cell? ⟨b, o, none⟩) (first | with_reducible exact stay_al (by assumption) | (first | exact stay_drew _ | exact stay_next (by assumption) (by assumption) | exact stay_mk (by repeat (first | with_reducible exact Below.refl _ _ | with_reducible exact stay_below (by assumption) | with_reducible refine Below.drew ?_ | with_reducible refine Below.alloc ?_ (by first | omega | (simp; done) | (simp; omega) | (simp at *; omega)) _ | with_reducible refine Below.setCell ?_ (by first | omega | (simp; done) | (simp; omega) | (simp at *; omega)) _ | with_reducible refine Below.trans ?_ (Below.mono (by assumption) (by first | omega | (simp; done) | (simp; omega) | (simp at *; omega))))))) (first | (go_at_call 35; refine (cloneI_any (Ha.out.grow (wa_b.trans ((stay_below (by assumption)).mono wa_le))) hlen hm).mono ?_; rintro e W' ⟨b', c', rfl, hi', hbw⟩) | fail)
    all_goals (go_wp2_with fail; go_ret2; unfold NewPost; rw [← Hr.out, if_pos rfl])
    · refine ⟨W'.heap.size, wa.heap.size, 1, b', c', rfl, ?_⟩
      rw [← Hv.out]
      have S1 := ((H.out.grow wa_b).rowZ (Zn.mk 1 z0 z0 v 1 0 0 z0 0)).grow (Below.refl _ _).drew
      have S2 := ((S1.ints hbw hi').pull (A := [_]))
      exact S2.boxDir (m := firstM v) (ty := 76) (ho := some ⟨b', 0, none⟩) (hl := l.length) (hc := c')
    · refine ⟨W'.heap.size + 1, W'.heap.size, 1, b', c', rfl, ?_⟩
      rw [← Hv.out]
      have S1 := (H.out.grow wa_b).grow (Below.refl _ _).drew
      have S2 := ((S1.ints hbw hi').rowZ (Zn.mk 1 z0 z0 v 1 0 0 z0 0))
      have S3 := S2.boxDir (m := firstM v) (ty := 76) (ho := some ⟨b', 0, none⟩) (hl := l.length) (hc := c')
      have hs : (W'.alloc (.cells (znV (Zn.mk 1 z0 z0 v 1 0 0 z0 0)).toArray 39)).heap.size = W'.heap.size + 1 := by simp
      rw [hs] at S3
      exact S3
end Go.Proofs.Ytobnibdeimiinaa
