/- The contracts of Decode and One. -/
import Derived.Test.YtgbhbhmjolihnaaFrEnc
namespace Go.Proofs.Ytgbhbhmjolihnaa
open Go.RowKit

/-- The post of Decode: what it holds, its length, and how it is refused. -/
def DecPost (w : World) (r : List UInt8 × Nat × Nat) (e : Ending) (w' : World) : Prop := ∃ ao cap, e = .returned (.tuple #[.slice ao r.1.length cap, .int .i64 (r.2.1 : Nat), .int .i64 (r.2.2 : Nat)]) ∧ OwnB w' w.heap.size ao cap r.1 ∧ Below w.heap.size w w'
theorem own_none (w : World) (base : Nat) : OwnB w base none 0 [] := ⟨rfl, .inl ⟨rfl, rfl⟩⟩
theorem bat_cut {w : World} {b off : Nat} {l : List UInt8} (hb : b < w.heap.size) (h : BRow w b off l) (m k : Nat) : BAt w (some ⟨b, off + m, none⟩) ((l.drop m).take k) := fun hp => ⟨b, off + m, rfl, hb, fun i hi => by
  simp only [List.length_take, List.length_drop] at hi
  rw [Nat.add_assoc, h (m + i) (by omega)]
  simp only [List.getElem_take, List.getElem_drop]⟩
theorem fromFour_b (ao : Option Addr) (cap : Nat) (l : List UInt8) (w : World) (h : BAt w ao l) (hl : 4 ≤ l.length) :
    Calls Try.prog 26 #[.slice ao l.length cap] w fun e w' => e = .returned (.int .u32 (unFour l : Nat)) ∧ Below w.heap.size w w' :=
  (qframe.fromFour_any ao cap l w h hl).mono fun _ _ ⟨he, _, hw⟩ => ⟨he, hw ▸ below_drawn (Below.refl _ _)⟩
set_option maxHeartbeats 4000000 in
theorem decode_any (ao : Option Addr) (cap : Nat) (l : List UInt8) (w : World) (h : Sl w ao cap l) (hm : l.length ≤ 140737488351232) :
    Calls Try.prog 9 #[.slice ao l.length cap] w (DecPost w (decB l)) := by
  by_cases h8 : (l.length : Int) < 8
  · have hd : decB l = ([], 0, 2) := by unfold decB; rw [if_pos (by omega)]
    rw [hd]
    clear hd h
    go_enter Try.func9, Try.ntmps9
    go_wp2_with fail
    go_ret3
    exact ⟨none, 0, rfl, own_none _ _, (by repeat (first | with_reducible exact Below.refl _ _ | with_reducible assumption | with_reducible refine Below.drew ?_ | with_reducible refine below_drawn ?_ | with_reducible refine Below.alloc ?_ (by first | omega | (simp; done) | (simp; omega) | (simp at *; omega)) _ | with_reducible refine Below.setCell ?_ (by first | omega | (simp; done) | (simp; omega) | (simp at *; omega)) _ | with_reducible refine Below.trans ?_ (Below.mono (by assumption) (by first | omega | (simp; done) | (simp; omega) | (simp at *; omega)))))⟩
  obtain ⟨b, off, rfl, hb, hr⟩ := h.at_ (by omega)
  have hlc := h.le
  have hcm := h.cm
  have hul := unFour_lt l
  have HS := Lib.hid h
  have Hr := Lib.hid hr
  obtain ⟨u, hu⟩ : ∃ u, u = unFour l := ⟨_, rfl⟩
  rw [← hu] at hul
  have hfour := qframe.fromFour_any (some ⟨b, off, none⟩) cap l w h.at_ (by omega)
  rw [← hu] at hfour
  have Hfour := Lib.hid hfour
  have hw8 : BAt w (some ⟨b, off, none⟩) (l.take 8) := by have := bat_cut hb hr 0 8; simpa using this
  have Hw8 := Lib.hid hw8
  have hl8 : (l.take 8).length = 8 := by rw [List.length_take]; omega
  have hdec : decB l = if l.take 8 ≠ headB u then ([], 0, 4) else if 1048576 < u then ([], 0, 5) else if l.length < 12 + u then ([], 0, 2) else if unFour (l.drop (8 + u)) ≠ sumOf (l.take (8 + u)) then ([], 0, 4) else ((l.drop 8).take u, 12 + u, 0) := by
    unfold decB; rw [if_neg (by omega), ← hu]
  have Hdec := Lib.hid hdec
  have Hl8 := Lib.hid hl8
  clear hu hfour hr h hw8 hdec hl8
  have hc8 : 8 ≤ cap := by omega
  have hc8i : (8 : Int) ≤ cap := by omega
  go_enter Try.func9, Try.ntmps9
  go_wp2_with fail
  refine Hfour.out.mono ?_
  rintro e w1 ⟨rfl, dn, rfl⟩
  go_wp2_with fail
  refine wp_name fun wa hwa => ?_
  have wab : Below w.heap.size w wa := by rw [hwa]; exact below_drawn (Below.refl _ _)
  clear hwa
  have was := wab.size
  obtain ⟨z, hz⟩ : ∃ z, z = (l.take 8 == headB u) := ⟨_, rfl⟩
  have he : ∀ (W : World) (ho : Option Addr) (hc : Nat), BAt W (some ⟨b, off, none⟩) (l.take 8) → BAt W ho (headB u) → Calls Try.prog 27 #[.slice (some ⟨b, off, none⟩) 8 cap, .slice ho (headB u).length hc] W fun e w' => e = .returned (.bool z) ∧ W = w' := by
    intro W ho hc g1 g2
    have := equal_any (some ⟨b, off, none⟩) ho cap hc (l.take 8) (headB u) W g1 g2
    rw [Hl8.out, ← hz] at this
    exact this.mono fun _ _ ⟨a, b⟩ => ⟨a, b.symm⟩
  have HE := Lib.hid he
  have Hz := Lib.hid hz
  clear he hz
  go_region_held3 (fun W => Below wa.heap.size wa W ∧ ∀ b o, b < wa.heap.size → W.cell? ⟨b, o, none⟩ = wa.cell? ⟨b, o, none⟩) (first | exact stay_drew _ | exact stay_next (by assumption) (by assumption)) (first
    | (go_at_call 23; refine (headOf_any u _ hul).mono ?_; rintro e y1 ⟨ho, hc, rfl, h1, b1⟩; have H1 := Lib.hid h1.sl; have C1 : Below w.heap.size w y1 := wab.trans (((Below.refl wa.heap.size wa).drew.trans b1).mono wab.size); clear h1)
    | (go_at_call 27; refine (HE.out _ ho hc (Hw8.out.below C1) H1.out.at_).mono ?_; rintro e y2 ⟨rfl, rfl⟩; have b2 := Below.refl y1.heap.size y1))
  have hs1 := C1.size
  have HC1 := Lib.hid C1
  have HS1 := Lib.hid (HS.out.grow C1)
  clear C1 b1 b2 wab
  cases z with
  | false =>
    have hd : decB l = ([], 0, 4) := by
      rw [Hdec.out, if_pos]
      intro e
      have := Hz.out
      rw [e] at this
      simp at this
    have Hd := Lib.hid hd
    clear hd
    go_wp2_with fail
    go_ret3
    rw [Hd.out]
    exact ⟨none, 0, rfl, own_none _ _, HC1.out⟩
  | true =>
    have hq : l.take 8 = headB u := by have := Hz.out; simpa using this.symm
    have hd1 : decB l = if 1048576 < u then ([], 0, 5) else if l.length < 12 + u then ([], 0, 2) else if unFour (l.drop (8 + u)) ≠ sumOf (l.take (8 + u)) then ([], 0, 4) else ((l.drop 8).take u, 12 + u, 0) := by
      rw [Hdec.out, if_neg (by simpa using hq)]
    have Hd1 := Lib.hid hd1
    clear Hdec hd1 hq Hz HE
    by_cases hbig : (1048576 : Int) < u
    · have hd : decB l = ([], 0, 5) := by rw [Hd1.out, if_pos (by omega)]
      have Hd := Lib.hid hd
      clear hd
      go_wp2_with fail
      go_ret3
      rw [Hd.out]
      exact ⟨none, 0, rfl, own_none _ _, HC1.out⟩
    by_cases hsh : (l.length : Int) < 12 + u
    · have hd : decB l = ([], 0, 2) := by rw [Hd1.out, if_neg (by omega), if_pos (by omega)]
      have Hd := Lib.hid hd
      have hsh2 : (l.length : Int) - 8 - 4 < u := by omega
      clear hd
      go_wp2_with fail
      go_ret3
      rw [Hd.out]
      exact ⟨none, 0, rfl, own_none _ _, HC1.out⟩
    have hsh2 : ¬ (l.length : Int) - 8 - 4 < u := by omega
    have hlt1 : (l.take (8 + u)).length = 8 + u := by rw [List.length_take]; omega
    have hld1 : (l.drop (8 + u)).length = l.length - (8 + u) := List.length_drop
    have hb1 : b < y1.heap.size := by omega
    have hr1 : BRow y1 b off l := Hr.out.below hb HC1.out
    have hat1 : BAt y1 (some ⟨b, off, none⟩) (l.take (8 + u)) := by have := bat_cut hb1 hr1 0 (8 + u); simpa using this
    have hat2 : BAt y1 (some ⟨b, off + (8 + u), none⟩) (l.drop (8 + u)) := by
      have := bat_cut hb1 hr1 (8 + u) (l.length - (8 + u))
      rwa [List.take_of_length_le (by rw [List.length_drop]; omega)] at this
    have hat3 : BAt y1 (some ⟨b, off + 8, none⟩) ((l.drop 8).take u) := bat_cut hb1 hr1 8 u
    have hl3 : ((l.drop 8).take u).length = u := by rw [List.length_take, List.length_drop]; omega
    have hf := fromFour_b (some ⟨b, off + (8 + u), none⟩) (cap - (8 + u)) (l.drop (8 + u)) y1 hat2 (by rw [hld1]; omega)
    obtain ⟨s, hs⟩ : ∃ s, s = unFour (l.drop (8 + u)) := ⟨_, rfl⟩
    obtain ⟨t, ht⟩ : ∃ t, t = sumOf (l.take (8 + u)) := ⟨_, rfl⟩
    rw [← hs, hld1] at hf
    have hd2 : decB l = if s ≠ t then ([], 0, 4) else ((l.drop 8).take u, 12 + u, 0) := by rw [Hd1.out, if_neg (by omega), if_neg (by omega), hs, ht]
    have hsum : ∀ W, Below y1.heap.size y1 W → Calls Try.prog 25 #[.slice (some ⟨W.heap.size, 0, none⟩) 1 1] (W.alloc (.cells #[.slice (some ⟨b, off, none⟩) (8 + u : Nat) cap] 22)) fun e w' => e = .returned (.int .u32 (t : Nat)) ∧ w' = W.alloc (.cells #[.slice (some ⟨b, off, none⟩) (8 + u : Nat) cap] 22) := by
      intro W hW
      have := sum_one (c := cap) (⟨by rw [hlt1]; omega, hcm, fun h => (nomatch h), hat1.below hW⟩ : Sl W (some ⟨b, off, none⟩) cap (l.take (8 + u))) 22 _ rfl
      rw [hlt1, ← ht] at this
      exact this
    have hclone : ∀ W, Below y1.heap.size y1 W → Calls Try.prog 28 #[.slice (some ⟨b, off + 8, none⟩) u (cap - 8)] W fun e w' => ∃ ao cap, e = .returned (.slice ao u cap) ∧ OwnB w' W.heap.size ao cap ((l.drop 8).take u) ∧ Below W.heap.size W w' := by
      intro W hW
      have := clone_any (some ⟨b, off + 8, none⟩) (cap - 8) ((l.drop 8).take u) W (fun h => (nomatch h)) (hat3.below hW) (by rw [hl3]; omega)
      unfold FreshB at this
      rw [hl3] at this
      exact this
    have Hf := Lib.hid hf
    have Hsum := Lib.hid hsum
    have Hclone := Lib.hid hclone
    have Hd2 := Lib.hid hd2
    have Hl3 := Lib.hid hl3
    clear hlt1 hld1 hr1 hat1 hat2 hat3 hf hs ht hd2 hsum hclone Hd1 hl3
    have hk1 : 8 + u ≤ cap := by omega
    have hk2 : (8 : Int) + u ≤ cap := by omega
    have hk3 : 8 + u ≤ l.length := by omega
    go_wp2_with fail
    refine Hf.out.mono ?_
    rintro e y2 ⟨rfl, b2⟩
    have Y2 := Lib.hid b2
    have s2 := b2.size
    clear b2 Hf
    go_wp2_with fail
    refine (Hsum.out _ Y2.out).mono ?_
    rintro e y3 ⟨rfl, rfl⟩
    have Y3 := Lib.hid (Y2.out.trans ((below_allocF y2 (.cells #[.slice (some ⟨b, off, none⟩) (8 + u : Nat) cap] 22)).mono s2))
    by_cases hst : s = t
    · subst hst
      have hd : decB l = ((l.drop 8).take u, 12 + u, 0) := by rw [Hd2.out, if_neg (by simp)]
      have Hd := Lib.hid hd
      clear hd Hd2
      go_wp2_with fail
      refine (Hclone.out _ Y3.out).mono ?_
      rintro e y4 ⟨ro, rc, rfl, ho, hb4⟩
      have HO := Lib.hid ho
      have HB := Lib.hid (HC1.out.trans ((Y3.out.trans (hb4.mono (by have := Y3.out.size; omega))).mono hs1))
      have hbase : w.heap.size ≤ (y2.alloc (.cells #[.slice (some ⟨b, off, none⟩) (8 + u : Nat) cap] 22)).heap.size := by have := Y3.out.size; omega
      have HO2 := Lib.hid (own_weak ho hbase)
      clear ho hb4 hbase HO
      go_wp2_with fail
      go_ret3
      rw [Hd.out]
      exact ⟨ro, rc, (show Ending.returned (.tuple #[.slice ro u rc, .int .i64 (8 + (u : Int) + 4), .int .i64 0]) = _ from by rw [show (8 + (u : Int) + 4) = ((12 + u : Nat) : Int) from by omega]; simp only [Hl3.out]; rfl), HO2.out, HB.out⟩
    · have hd : decB l = ([], 0, 4) := by rw [Hd2.out, if_pos hst]
      have Hd := Lib.hid hd
      have hne : ((s : Int) != t) = true := by simp; omega
      clear hd Hd2
      go_wp2_with fail
      go_ret3
      rw [Hd.out]
      exact ⟨none, 0, rfl, own_none _ _, HC1.out.trans (Y3.out.mono hs1)⟩
/-- What bytes hold that are one record. -/
def oneB (l : List UInt8) : List UInt8 × Nat := if (decB l).2.2 = 0 ∧ (decB l).2.1 ≠ l.length then ([], 3) else ((decB l).1, (decB l).2.2)
def OnePost (w : World) (r : List UInt8 × Nat) (e : Ending) (w' : World) : Prop := ∃ ao cap, e = .returned (.tuple #[.slice ao r.1.length cap, .int .i64 (r.2 : Nat)]) ∧ OwnB w' w.heap.size ao cap r.1 ∧ Below w.heap.size w w'
theorem one_any (ao : Option Addr) (cap : Nat) (l : List UInt8) (w : World) (h : Sl w ao cap l) (hm : l.length ≤ 140737488351232) :
    Calls Try.prog 13 #[.slice ao l.length cap] w (OnePost w (oneB l)) := by
  have H := Lib.hid (decode_any ao cap l w h hm)
  obtain ⟨d, n, c, hd⟩ : ∃ d n c, decB l = (d, n, c) := ⟨_, _, _, rfl⟩
  have h1 : oneB l = if c = 0 ∧ n ≠ l.length then ([], 3) else (d, c) := by unfold oneB; rw [hd]
  have H1 := Lib.hid h1
  rw [hd] at H
  clear h h1 hd
  by_cases hc : c = 0
  · subst hc
    by_cases hn : n = l.length
    all_goals
      (first | (have hb : ((n : Int) != l.length) = false := by simp; omega) | (have hb : ((n : Int) != l.length) = true := by simp; omega))
      have Hn := Lib.hid hn
      clear hn
      go_enter Try.func13, Try.ntmps13
      go_wp2_with fail
      refine H.out.mono ?_
      rintro e w1 ⟨ro, rc, rfl, ho, hb1⟩
      have HO := Lib.hid ho
      have HB := Lib.hid hb1
      clear ho hb1
      simp only
      go_wp2_with fail
      go_ret2
    · rw [H1.out, if_neg (by simp [Hn.out])]
      exact ⟨ro, rc, by first | rfl | trivial, HO.out, HB.out⟩
    · rw [H1.out, if_pos ⟨by first | rfl | trivial, Hn.out⟩]
      exact ⟨none, 0, by first | rfl | trivial, own_none _ _, HB.out⟩
  · have hc0 : ((c : Int) == 0) = false := by rw [beq_eq_false_iff_ne]; omega
    go_enter Try.func13, Try.ntmps13
    go_wp2_with fail
    refine H.out.mono ?_
    rintro e w1 ⟨ro, rc, rfl, ho, hb1⟩
    have HO := Lib.hid ho
    have HB := Lib.hid hb1
    clear ho hb1
    simp only
    go_wp2_with fail
    go_ret2
    rw [H1.out, if_neg (by simp [hc])]
    exact ⟨ro, rc, by first | rfl | trivial, HO.out, HB.out⟩
end Go.Proofs.Ytgbhbhmjolihnaa
