/- PieceComes: of bytes that come, and every row of pieces, how many there are. -/
import Derived.Test.YtclbplodbmldpaaPcBits
import Derived.Test.YtclbplodbmldpaaRows
namespace Go.Proofs.Ytclbplodbmldpaa
open Go.RowKit

open Go.WideShapes in
theorem open_int {W : World} {b : Nat} {v : Value} (hv : Value.okWide Try.prog W .any b 3 v) : ∃ n, v = .int .i64 n := by
  obtain ⟨m, rfl⟩ := okWide_int Try.underlying3 hv
  exact ⟨m, rfl⟩
theorem same_yes (ao bo : Option Addr) (ca cb : Nat) (a : List UInt8) (w : World) (ha : BAt w ao a) (hb : BAt w bo a) (hm : a.length ≤ 9223372036854775807) :
    Calls Try.prog 12 #[.slice ao a.length ca, .slice bo a.length cb] w fun e w' => e = .returned (.bool true) ∧ Below w.heap.size w w' := by
  have := same_any ao bo ca cb a a w ha hb hm hm
  simpa only [beq_self_eq_true] using this
theorem inWhole_is (p base : Nat) (l : List UInt8) (o : Option Nat) (size : Int) (w : World) (hw : InAt w p base l size o) (b : Bool) (hb : b = ((l.length : Int) == size)) :
    Calls Try.prog 25 #[.pointer (some ⟨p, 0, none⟩)] w fun e w' => e = .returned (.bool b) ∧ Below w.heap.size w w' := by subst hb; exact inWhole_any p base l o size w hw
theorem refInWhole_is (p base : Nat) (l : List UInt8) (o : Option Nat) (size : Int) (w : World) (hw : RInAt w p base l size o) (b : Bool) (hb : b = ((l.length : Int) == size)) :
    Calls Try.prog 26 #[.pointer (some ⟨p, 0, none⟩)] w fun e w' => e = .returned (.bool b) ∧ Below w.heap.size w w' := by subst hb; exact refInWhole_any p base l o size w hw
theorem bat_short {w : World} {base g cap : Nat} {l : List UInt8} (h : OwnB w base (some ⟨g, 0, none⟩) cap (l ++ [171])) : BAt w (some ⟨g, 0, none⟩) l := by
  have := own_short h l.length (by simp)
  rw [List.take_left] at this
  exact this.at
set_option maxRecDepth 20000 in
set_option maxHeartbeats 4000000 in
theorem comes_walk (size : Int) (bo : Option Addr) (bcap : Nat) (L : List BitR) (W : World) (hL : L.length ≤ 9223372036854775807) (hrow : 0 < L.length → ∃ b off, bo = some ⟨b, off, none⟩ ∧ b < W.heap.size ∧ ∀ i, (hi : i < L.length) → BitAt W b (off + i * 2) L[i]) :
    Calls Try.prog 4 #[.int .i64 size, .slice bo L.length bcap] W fun e w' => e = .returned (.bool true) ∧ Below W.heap.size W w' := by
  have Hrow := Lib.hid hrow
  clear hrow
  go_enter Try.func4, Try.ntmps4
  go_wp2_with fail
  go_loopw [5, 6] (fun s5 s6 wr => W = wr ∧ ∃ n k : Nat, s5 = .int .i64 n ∧ s6 = .int .i64 k ∧ n ≤ 3000 ∧ k ≤ L.length ∧ k ≤ 100 ∧ Hid (∀ j, (hj : j < L.length) → j < k → L[j].bs.length ≤ 3000)) (fun _ s6 _ => 100 - (intOf s6).toNat)
  case atStart => exact ⟨rfl, 0, 0, rfl, rfl, by omega, by omega, by omega, fun j _ h => by omega⟩
  case round =>
    obtain ⟨rfl, n, k, rfl, rfl, hn, hk1, hk2, hst⟩ := hrel
    by_cases hin : (k : Int) < L.length ∧ (k : Int) < 100
    · obtain ⟨hlt, hlt2⟩ := hin
      obtain ⟨b, off, rfl, hb, hr⟩ := Hrow.out (by omega)
      obtain ⟨r, hrr⟩ : ∃ r, r = L[k]'(by omega) := ⟨_, rfl⟩
      have hra := hr k (by omega)
      rw [← hrr] at hra
      have c0 := hra.c0
      have c1 := hra.c1
      have hle := hra.le
      have hcm := hra.cm
      have Hrr := Lib.hid hrr
      clear hra hr hrr
      by_cases hbig : (3000 : Int) < r.bs.length
      · obtain ⟨z, hz⟩ : ∃ z, IntKind.i64.wrap ((n : Int) + 10 + r.bs.length) = z := ⟨_, rfl⟩
        by_cases hz3 : (3000 : Int) < z
        all_goals
          go_wp2_with fail
          go_ret
          exact ⟨rfl, (by repeat (first | with_reducible exact Below.refl _ _ | with_reducible assumption | with_reducible refine Below.drew ?_ | with_reducible refine below_drawn ?_ | with_reducible refine Below.alloc ?_ (by first | omega | (simp; done) | (simp; omega) | (simp at *; omega)) _ | with_reducible refine Below.setCell ?_ (by first | omega | (simp; done) | (simp; omega) | (simp at *; omega)) _ | with_reducible refine Below.trans ?_ (Below.mono (by assumption) (by first | omega | (simp; done) | (simp; omega) | (simp at *; omega)))))⟩
      · by_cases hbn : (3000 : Int) < n + 10 + r.bs.length
        · go_wp2_with fail
          go_ret
          exact ⟨rfl, (by repeat (first | with_reducible exact Below.refl _ _ | with_reducible assumption | with_reducible refine Below.drew ?_ | with_reducible refine below_drawn ?_ | with_reducible refine Below.alloc ?_ (by first | omega | (simp; done) | (simp; omega) | (simp at *; omega)) _ | with_reducible refine Below.setCell ?_ (by first | omega | (simp; done) | (simp; omega) | (simp at *; omega)) _ | with_reducible refine Below.trans ?_ (Below.mono (by assumption) (by first | omega | (simp; done) | (simp; omega) | (simp at *; omega)))))⟩
        · go_wp2_with fail
          go_roundw
          case rel => exact ⟨trivial, n + 10 + r.bs.length, k + 1, by go_num, by go_num, by omega, by omega, by omega, fun j hj h => by
            by_cases hjk : j = k
            · subst hjk; have := Hrr.out; rw [← this]; omega
            · exact hst.out j hj (by omega)⟩
          case measure => simp [intOf]; omega
    · have hall : ∀ j, (hj : j < L.length) → j < 100 → L[j].bs.length ≤ 3000 := fun j hj h => hst.out j hj (by omega)
      have Hall := Lib.hid hall
      clear hst hall
      by_cases hlt : (k : Int) < L.length
      · have hlt2 : ¬ (k : Int) < 100 := by omega
        clear hin
        go_wp2_with fail
        by_cases hsz : 1 ≤ size ∧ size ≤ 524288
        · obtain ⟨hsz1, hsz2⟩ := hsz
          refine (begin_yes size _ hsz1 hsz2 W.heap.size).mono ?_
          rintro e w1 ⟨rfl, i1, b1⟩
          have hs1 := b1.size
          have Hi1 := Lib.hid i1
          have Hb1 := Lib.hid b1
          clear i1 b1
          go_wp2_with fail
          refine (refBegin_yes size _ hsz1 hsz2 W.heap.size).mono ?_
          rintro e w2 ⟨rfl, x2, b2⟩
          have I0 : Hid (IInv W w2 W.heap.size w1.heap.size [] size none none) := ⟨Hi1.out.grow b2, x2, Hb1.out.trans (b2.mono hs1), by omega, by omega, by have := Hi1.out.lt.1; omega, (by simp), (by simp), (fun g h => (nomatch h)), by simp; omega⟩
          obtain ⟨pi, hpi⟩ : ∃ pi, pi = W.heap.size := ⟨_, rfl⟩
          obtain ⟨px, hpx⟩ : ∃ px, px = w1.heap.size := ⟨_, rfl⟩
          rw [show IInv W w2 W.heap.size w1.heap.size = IInv W w2 pi px by rw [hpi, hpx]] at I0
          rw [← hpi, ← hpx]
          clear hpi hpx Hi1 Hb1 x2 b2 hs1
          go_wp2_with fail
          go_loopw [11] (fun s11 wr => ∃ (k : Nat) (l : List UInt8) (o o2 : Option Nat), s11 = .int .i64 k ∧ k ≤ L.length ∧ k ≤ 100 ∧ Hid (IInv W wr pi px l size o o2)) (fun s11 _ => 100 - (intOf s11).toNat)
          case atStart => exact ⟨0, [], none, none, rfl, by omega, by omega, I0⟩
          case round =>
            clear I0 hlt
            obtain ⟨k, l, o, o2, rfl, hk3, hk4, hst⟩ := hrel
            by_cases hlt : (k : Int) < L.length
            · by_cases hlt2 : (k : Int) < 100
              · obtain ⟨b, off, rfl, hb, hr⟩ := Hrow.out (by omega)
                have h3000 := Hall.out k (by omega) (by omega)
                obtain ⟨r, hrr⟩ : ∃ r, r = L[k]'(by omega) := ⟨_, rfl⟩
                have hra := hr k (by omega)
                rw [← hrr] at hra h3000
                have c0 := (hst.out.b.cell (p := ⟨b, off + k * 2, none⟩) hb).trans hra.c0
                have c1 := (hst.out.b.cell (p := ⟨b, off + k * 2 + 1, none⟩) hb).trans hra.c1
                have hle := hra.le
                have hcm := hra.cm
                have Hra := Lib.hid hra
                clear hra hr hrr
                go_wp2_with fail
                refine (roomy_any r.ao r.cap r.bs _ Hra.out.n0 (Hra.out.at_.below hst.out.b) (by omega)).mono ?_
                rintro e v1 ⟨g0, k0, rfl, ho, b1⟩
                have hg0 := own_lt ho g0 rfl
                have hle0 := ho.le
                simp only [List.length_append, List.length_cons, List.length_nil] at hle0
                have hq1 : r.bs.length ≤ k0 := by omega
                have hq2 : (r.bs.length : Int) ≤ k0 := by omega
                have I1 := Lib.hid (hst.out.grow b1)
                have d0 := (I1.out.b.cell (p := ⟨b, off + k * 2, none⟩) hb).trans Hra.out.c0
                have d1 := (I1.out.b.cell (p := ⟨b, off + k * 2 + 1, none⟩) hb).trans Hra.out.c1
                have N1 : ∀ g, o = some g → g ≠ g0 := fun g h e => by have := (hst.out.i.lt.2 g h).1; omega
                have N2 : ∀ g, o2 = some g → g ≠ g0 := fun g h e => by have := (hst.out.x.lt.2 g h).1; omega
                have hpi1 := hst.out.i.lt.1
                have hpx1 := hst.out.x.lt.1
                have hNpi : g0 ≠ pi := by omega
                have hNpx : g0 ≠ px := by omega
                have HN := Lib.hid (⟨N1, N2, hNpi, hNpx⟩ : (∀ g, o = some g → g ≠ g0) ∧ (∀ g, o2 = some g → g ≠ g0) ∧ g0 ≠ pi ∧ g0 ≠ px)
                have BWs := Lib.hid hst.out.b.size
                have Ho := Lib.hid ho
                have Hg0 := Lib.hid hg0
                have Hl3 := Lib.hid hst.out.hl
                clear N1 N2 hpi1 hpx1 hNpi hNpx b1 ho c0 c1 hle0 hg0 hst hk3 hk4
                go_wp2_with fail
                go_region_held3 (fun w' => w'.cell? ⟨b, off + k * 2, none⟩ = some (.int .i64 r.off) ∧ w'.cell? ⟨b, off + k * 2 + 1, none⟩ = some (.slice r.ao r.bs.length r.cap)) (go_keep) (first
                  | (go_at_call 21; refine (inTake_any pi W.heap.size l o size r.off (some ⟨g0, 0, none⟩) k0 r.bs _ (I1.out.i.grow (Below.refl _ _).drew) (fun h => (nomatch h)) ((bat_short Ho.out).below (Below.refl _ _).drew) (Nat.le_trans I1.out.b.size (Nat.le_refl _)) (by have := Hl3.out; omega) (by omega) hsz2).mono ?_; rintro e y1 ⟨rfl, ⟨o', i1, f1⟩, k1⟩; have bW := (I1.out.grow (Below.refl _ _).drew).below k1; have d2 := (bW.cell (p := ⟨b, off + k * 2, none⟩) hb).trans Hra.out.c0; have d3 := (bW.cell (p := ⟨b, off + k * 2 + 1, none⟩) hb).trans Hra.out.c1; have X1 := Lib.hid ((I1.out.grow (Below.refl _ _).drew).xmid k1); have Ho1 := Lib.hid (own_keeps (own_grow Ho.out (Below.refl _ _).drew) k1 (fun g hg s => by rcases s with s | s; exact HN.out.2.2.1 (by have : g0 = g := (by simpa [Value.ownBlock] using hg); omega); exact HN.out.1 g s (by have : g0 = g := (by simpa [Value.ownBlock] using hg); omega))); have BW := Lib.hid bW; have T1 := Lib.hid (⟨i1, f1, k1⟩ : _ ∧ _ ∧ _); clear bW i1 f1 k1 d0 d1)
                  | (go_at_call 22; refine (refTake_any px W.heap.size l o2 size r.off r.ao r.cap r.bs _ X1.out Hra.out.n0 (Hra.out.at_.below BW.out) BW.out.size (by have := Hl3.out; omega) (by omega) hsz2).mono ?_; rintro e y2 ⟨rfl, ⟨o2', x2, f2⟩, k2⟩; have I2 := Lib.hid ((I1.out.grow (Below.refl _ _).drew).took T1.out.2.2 k2 T1.out.1 T1.out.2.1 x2 f2 (takeOf_le _ _ _ _ Hl3.out)); have d4 := (I2.out.b.cell (p := ⟨b, off + k * 2, none⟩) hb).trans Hra.out.c0; have d5 := (I2.out.b.cell (p := ⟨b, off + k * 2 + 1, none⟩) hb).trans Hra.out.c1; have Ho2 := Lib.hid (own_keeps Ho1.out k2 (fun g hg s => by rcases s with s | s; exact HN.out.2.2.2 (by have : g0 = g := (by simpa [Value.ownBlock] using hg); omega); exact HN.out.2.1 g s (by have : g0 = g := (by simpa [Value.ownBlock] using hg); omega))); have M1 : Hid (o' ≠ some g0) := (fun h => by rcases T1.out.2.1 g0 h with h1 | h1; exact HN.out.1 g0 h1 rfl; have := Hg0.out.1; have h1 : v1.heap.size ≤ g0 := h1; omega); have M2 : Hid (o2' ≠ some g0) := (fun h => by rcases f2 g0 h with h1 | h1; exact HN.out.2.1 g0 h1 rfl; have := Hg0.out.1; have h3 : v1.heap.size ≤ y1.heap.size := T1.out.2.2.size; omega); clear x2 f2 k2 X1 T1 Ho1 BW d2 d3)
                  | (go_at_call 23; refine (stands_yes g0 k0 r.ao r.cap r.bs _ _ Ho2.out (Hra.out.at_.below I2.out.b) (by omega)).mono ?_; rintro e y3 ⟨rfl, b3⟩; have I3 := Lib.hid (I2.out.grow b3); have d6 := (I3.out.b.cell (p := ⟨b, off + k * 2, none⟩) hb).trans Hra.out.c0; have d7 := (I3.out.b.cell (p := ⟨b, off + k * 2 + 1, none⟩) hb).trans Hra.out.c1; have Ho3 := Lib.hid (own_grow Ho2.out b3); clear b3 Ho2 I2 d4 d5))
                go_wp2_with fail
                refine (spoil_at (r.bs.length + 1) (some ⟨g0, 0, none⟩) k0 W.heap.size (r.bs ++ [171]) _ (own_weak Ho3.out BWs.out) (by simp) I3.out.b.size (by simp; omega)).mono ?_
                rintro e y4 ⟨rfl, k4⟩
                have I4 := Lib.hid (I3.out.keep k4 (fun x ⟨a, e, hx⟩ => by
                  simp only [Option.some.injEq] at e
                  subst e hx
                  exact ⟨Nat.le_trans BWs.out Hg0.out.2, HN.out.2.2.1, HN.out.2.2.2, M1.out, M2.out⟩))
                clear k4 Ho3 I3 M1 M2 Hg0 HN d6 d7 I1 Ho hq1 hq2
                generalize hl' : takeOf l size r.off r.bs = l' at I4
                obtain ⟨xo, xcap, hh, hxo, -⟩ := I4.out.x
                obtain ⟨x0, x1, -, -⟩ := cell_of_two hh
                have Hxo := Lib.hid hxo
                have hpx := I4.out.x.lt.1
                have hl5 := I4.out.hl
                obtain ⟨wb, hwb⟩ : ∃ wb, wb = ((l'.length : Int) == size) := ⟨_, rfl⟩
                have Hwb := Lib.hid hwb
                clear hh hxo hwb hl'
                go_wp2_with fail
                go_region_held3 (fun w' => w'.cell? ⟨px, 1, none⟩ = some (.slice xo l'.length xcap)) (go_keep) (first
                  | (go_at_call 24; refine (inBytes_any pi _ l' _ size _ (I4.out.i.grow (Below.refl _ _).drew) (by omega)).mono ?_; rintro e z1 ⟨zo, zc, rfl, hz, bz⟩; have J1 := Lib.hid ((I4.out.grow (Below.refl _ _).drew).grow bz); have x2 := (bz.cell (p := ⟨px, 1, none⟩) hpx).trans x1; have Hxo1 := Lib.hid (own_grow (own_grow Hxo.out (Below.refl _ _).drew) bz); have Hz := Lib.hid hz; have hp1 := bz.size; clear hz bz)
                  | (go_at_call 12; refine (same_yes zo xo zc xcap l' _ Hz.out.at Hxo1.out.at (by omega)).mono ?_; rintro e z2 ⟨rfl, bz⟩; have J2 := Lib.hid (J1.out.grow bz); have x3 := (bz.cell (p := ⟨px, 1, none⟩) (Nat.lt_of_lt_of_le hpx hp1)).trans x2; have hp2 := bz.size; clear bz J1)
                  | (go_at_call 25; refine (inWhole_is pi _ l' _ size _ J2.out.i wb Hwb.out).mono ?_; rintro e z3 ⟨rfl, bz⟩; have J3 := Lib.hid (J2.out.grow bz); have x4 := (bz.cell (p := ⟨px, 1, none⟩) (Nat.lt_of_lt_of_le hpx (Nat.le_trans hp1 hp2))).trans x3; have hp3 := bz.size; clear bz J2)
                  | (go_at_call 26; refine (refInWhole_is px _ l' _ size _ J3.out.x wb Hwb.out).mono ?_; rintro e z4 ⟨rfl, bz⟩; have J4 := Lib.hid (J3.out.grow bz); have x5 := (bz.cell (p := ⟨px, 1, none⟩) (Nat.lt_of_lt_of_le hpx (Nat.le_trans hp1 (Nat.le_trans hp2 hp3)))).trans x4; clear bz J3))
                go_wp2_with fail
                go_roundw
                case rel => exact ⟨k + 1, l', o', o2', by go_num, by omega, by omega, J4⟩
                case measure => simp [intOf]; omega
              · go_wp2_with fail
                refine (known_any _).mono ?_
                rintro e w8 ⟨rfl, b8⟩
                have b9 := Lib.hid (hst.out.b.trans (b8.mono hst.out.b.size))
                clear b8
                go_wp2_with fail
                go_ret
                exact ⟨rfl, b9.out⟩
            · go_wp2_with fail
              refine (known_any _).mono ?_
              rintro e w8 ⟨rfl, b8⟩
              have b9 := Lib.hid (hst.out.b.trans (b8.mono hst.out.b.size))
              clear b8
              go_wp2_with fail
              go_ret
              exact ⟨rfl, b9.out⟩
        · refine (begin_no size _ (by omega)).mono ?_
          rintro e w1 ⟨rfl, b1⟩
          have Hb1 := Lib.hid b1
          have hs1 := b1.size
          clear b1
          go_wp2_with fail
          refine (refBegin_no size _ (by omega)).mono ?_
          rintro e w2 ⟨rfl, b2⟩
          have Hb2 := Lib.hid (Hb1.out.trans (b2.mono hs1))
          clear b2
          go_wp2_with fail
          refine wp_loop_rounds 1 ?_
          rw [rounds_succ]
          by_cases h0 : (0 : Int) < L.length
          all_goals first | (exfalso; omega) | skip
          all_goals
            go_wp2_with fail
            refine (known_any _).mono ?_
            rintro e w8 ⟨rfl, b8⟩
            have b9 := Lib.hid (Hb2.out.trans (b8.mono Hb2.out.size))
            clear b8
            go_wp2_with fail
            go_ret
            exact ⟨rfl, b9.out⟩
      · clear hin
        go_wp2_with fail
        by_cases hsz : 1 ≤ size ∧ size ≤ 524288
        · obtain ⟨hsz1, hsz2⟩ := hsz
          refine (begin_yes size _ hsz1 hsz2 W.heap.size).mono ?_
          rintro e w1 ⟨rfl, i1, b1⟩
          have hs1 := b1.size
          have Hi1 := Lib.hid i1
          have Hb1 := Lib.hid b1
          clear i1 b1
          go_wp2_with fail
          refine (refBegin_yes size _ hsz1 hsz2 W.heap.size).mono ?_
          rintro e w2 ⟨rfl, x2, b2⟩
          have I0 : Hid (IInv W w2 W.heap.size w1.heap.size [] size none none) := ⟨Hi1.out.grow b2, x2, Hb1.out.trans (b2.mono hs1), by omega, by omega, by have := Hi1.out.lt.1; omega, (by simp), (by simp), (fun g h => (nomatch h)), by simp; omega⟩
          obtain ⟨pi, hpi⟩ : ∃ pi, pi = W.heap.size := ⟨_, rfl⟩
          obtain ⟨px, hpx⟩ : ∃ px, px = w1.heap.size := ⟨_, rfl⟩
          rw [show IInv W w2 W.heap.size w1.heap.size = IInv W w2 pi px by rw [hpi, hpx]] at I0
          rw [← hpi, ← hpx]
          clear hpi hpx Hi1 Hb1 x2 b2 hs1
          go_wp2_with fail
          go_loopw [11] (fun s11 wr => ∃ (k : Nat) (l : List UInt8) (o o2 : Option Nat), s11 = .int .i64 k ∧ k ≤ L.length ∧ k ≤ 100 ∧ Hid (IInv W wr pi px l size o o2)) (fun s11 _ => 100 - (intOf s11).toNat)
          case atStart => exact ⟨0, [], none, none, rfl, by omega, by omega, I0⟩
          case round =>
            clear I0 hlt
            obtain ⟨k, l, o, o2, rfl, hk3, hk4, hst⟩ := hrel
            by_cases hlt : (k : Int) < L.length
            · by_cases hlt2 : (k : Int) < 100
              · obtain ⟨b, off, rfl, hb, hr⟩ := Hrow.out (by omega)
                have h3000 := Hall.out k (by omega) (by omega)
                obtain ⟨r, hrr⟩ : ∃ r, r = L[k]'(by omega) := ⟨_, rfl⟩
                have hra := hr k (by omega)
                rw [← hrr] at hra h3000
                have c0 := (hst.out.b.cell (p := ⟨b, off + k * 2, none⟩) hb).trans hra.c0
                have c1 := (hst.out.b.cell (p := ⟨b, off + k * 2 + 1, none⟩) hb).trans hra.c1
                have hle := hra.le
                have hcm := hra.cm
                have Hra := Lib.hid hra
                clear hra hr hrr
                go_wp2_with fail
                refine (roomy_any r.ao r.cap r.bs _ Hra.out.n0 (Hra.out.at_.below hst.out.b) (by omega)).mono ?_
                rintro e v1 ⟨g0, k0, rfl, ho, b1⟩
                have hg0 := own_lt ho g0 rfl
                have hle0 := ho.le
                simp only [List.length_append, List.length_cons, List.length_nil] at hle0
                have hq1 : r.bs.length ≤ k0 := by omega
                have hq2 : (r.bs.length : Int) ≤ k0 := by omega
                have I1 := Lib.hid (hst.out.grow b1)
                have d0 := (I1.out.b.cell (p := ⟨b, off + k * 2, none⟩) hb).trans Hra.out.c0
                have d1 := (I1.out.b.cell (p := ⟨b, off + k * 2 + 1, none⟩) hb).trans Hra.out.c1
                have N1 : ∀ g, o = some g → g ≠ g0 := fun g h e => by have := (hst.out.i.lt.2 g h).1; omega
                have N2 : ∀ g, o2 = some g → g ≠ g0 := fun g h e => by have := (hst.out.x.lt.2 g h).1; omega
                have hpi1 := hst.out.i.lt.1
                have hpx1 := hst.out.x.lt.1
                have hNpi : g0 ≠ pi := by omega
                have hNpx : g0 ≠ px := by omega
                have HN := Lib.hid (⟨N1, N2, hNpi, hNpx⟩ : (∀ g, o = some g → g ≠ g0) ∧ (∀ g, o2 = some g → g ≠ g0) ∧ g0 ≠ pi ∧ g0 ≠ px)
                have BWs := Lib.hid hst.out.b.size
                have Ho := Lib.hid ho
                have Hg0 := Lib.hid hg0
                have Hl3 := Lib.hid hst.out.hl
                clear N1 N2 hpi1 hpx1 hNpi hNpx b1 ho c0 c1 hle0 hg0 hst hk3 hk4
                go_wp2_with fail
                go_region_held3 (fun w' => w'.cell? ⟨b, off + k * 2, none⟩ = some (.int .i64 r.off) ∧ w'.cell? ⟨b, off + k * 2 + 1, none⟩ = some (.slice r.ao r.bs.length r.cap)) (go_keep) (first
                  | (go_at_call 21; refine (inTake_any pi W.heap.size l o size r.off (some ⟨g0, 0, none⟩) k0 r.bs _ (I1.out.i.grow (Below.refl _ _).drew) (fun h => (nomatch h)) ((bat_short Ho.out).below (Below.refl _ _).drew) (Nat.le_trans I1.out.b.size (Nat.le_refl _)) (by have := Hl3.out; omega) (by omega) hsz2).mono ?_; rintro e y1 ⟨rfl, ⟨o', i1, f1⟩, k1⟩; have bW := (I1.out.grow (Below.refl _ _).drew).below k1; have d2 := (bW.cell (p := ⟨b, off + k * 2, none⟩) hb).trans Hra.out.c0; have d3 := (bW.cell (p := ⟨b, off + k * 2 + 1, none⟩) hb).trans Hra.out.c1; have X1 := Lib.hid ((I1.out.grow (Below.refl _ _).drew).xmid k1); have Ho1 := Lib.hid (own_keeps (own_grow Ho.out (Below.refl _ _).drew) k1 (fun g hg s => by rcases s with s | s; exact HN.out.2.2.1 (by have : g0 = g := (by simpa [Value.ownBlock] using hg); omega); exact HN.out.1 g s (by have : g0 = g := (by simpa [Value.ownBlock] using hg); omega))); have BW := Lib.hid bW; have T1 := Lib.hid (⟨i1, f1, k1⟩ : _ ∧ _ ∧ _); clear bW i1 f1 k1 d0 d1)
                  | (go_at_call 22; refine (refTake_any px W.heap.size l o2 size r.off r.ao r.cap r.bs _ X1.out Hra.out.n0 (Hra.out.at_.below BW.out) BW.out.size (by have := Hl3.out; omega) (by omega) hsz2).mono ?_; rintro e y2 ⟨rfl, ⟨o2', x2, f2⟩, k2⟩; have I2 := Lib.hid ((I1.out.grow (Below.refl _ _).drew).took T1.out.2.2 k2 T1.out.1 T1.out.2.1 x2 f2 (takeOf_le _ _ _ _ Hl3.out)); have d4 := (I2.out.b.cell (p := ⟨b, off + k * 2, none⟩) hb).trans Hra.out.c0; have d5 := (I2.out.b.cell (p := ⟨b, off + k * 2 + 1, none⟩) hb).trans Hra.out.c1; have Ho2 := Lib.hid (own_keeps Ho1.out k2 (fun g hg s => by rcases s with s | s; exact HN.out.2.2.2 (by have : g0 = g := (by simpa [Value.ownBlock] using hg); omega); exact HN.out.2.1 g s (by have : g0 = g := (by simpa [Value.ownBlock] using hg); omega))); have M1 : Hid (o' ≠ some g0) := (fun h => by rcases T1.out.2.1 g0 h with h1 | h1; exact HN.out.1 g0 h1 rfl; have := Hg0.out.1; have h1 : v1.heap.size ≤ g0 := h1; omega); have M2 : Hid (o2' ≠ some g0) := (fun h => by rcases f2 g0 h with h1 | h1; exact HN.out.2.1 g0 h1 rfl; have := Hg0.out.1; have h3 : v1.heap.size ≤ y1.heap.size := T1.out.2.2.size; omega); clear x2 f2 k2 X1 T1 Ho1 BW d2 d3)
                  | (go_at_call 23; refine (stands_yes g0 k0 r.ao r.cap r.bs _ _ Ho2.out (Hra.out.at_.below I2.out.b) (by omega)).mono ?_; rintro e y3 ⟨rfl, b3⟩; have I3 := Lib.hid (I2.out.grow b3); have d6 := (I3.out.b.cell (p := ⟨b, off + k * 2, none⟩) hb).trans Hra.out.c0; have d7 := (I3.out.b.cell (p := ⟨b, off + k * 2 + 1, none⟩) hb).trans Hra.out.c1; have Ho3 := Lib.hid (own_grow Ho2.out b3); clear b3 Ho2 I2 d4 d5))
                go_wp2_with fail
                refine (spoil_at (r.bs.length + 1) (some ⟨g0, 0, none⟩) k0 W.heap.size (r.bs ++ [171]) _ (own_weak Ho3.out BWs.out) (by simp) I3.out.b.size (by simp; omega)).mono ?_
                rintro e y4 ⟨rfl, k4⟩
                have I4 := Lib.hid (I3.out.keep k4 (fun x ⟨a, e, hx⟩ => by
                  simp only [Option.some.injEq] at e
                  subst e hx
                  exact ⟨Nat.le_trans BWs.out Hg0.out.2, HN.out.2.2.1, HN.out.2.2.2, M1.out, M2.out⟩))
                clear k4 Ho3 I3 M1 M2 Hg0 HN d6 d7 I1 Ho hq1 hq2
                generalize hl' : takeOf l size r.off r.bs = l' at I4
                obtain ⟨xo, xcap, hh, hxo, -⟩ := I4.out.x
                obtain ⟨x0, x1, -, -⟩ := cell_of_two hh
                have Hxo := Lib.hid hxo
                have hpx := I4.out.x.lt.1
                have hl5 := I4.out.hl
                obtain ⟨wb, hwb⟩ : ∃ wb, wb = ((l'.length : Int) == size) := ⟨_, rfl⟩
                have Hwb := Lib.hid hwb
                clear hh hxo hwb hl'
                go_wp2_with fail
                go_region_held3 (fun w' => w'.cell? ⟨px, 1, none⟩ = some (.slice xo l'.length xcap)) (go_keep) (first
                  | (go_at_call 24; refine (inBytes_any pi _ l' _ size _ (I4.out.i.grow (Below.refl _ _).drew) (by omega)).mono ?_; rintro e z1 ⟨zo, zc, rfl, hz, bz⟩; have J1 := Lib.hid ((I4.out.grow (Below.refl _ _).drew).grow bz); have x2 := (bz.cell (p := ⟨px, 1, none⟩) hpx).trans x1; have Hxo1 := Lib.hid (own_grow (own_grow Hxo.out (Below.refl _ _).drew) bz); have Hz := Lib.hid hz; have hp1 := bz.size; clear hz bz)
                  | (go_at_call 12; refine (same_yes zo xo zc xcap l' _ Hz.out.at Hxo1.out.at (by omega)).mono ?_; rintro e z2 ⟨rfl, bz⟩; have J2 := Lib.hid (J1.out.grow bz); have x3 := (bz.cell (p := ⟨px, 1, none⟩) (Nat.lt_of_lt_of_le hpx hp1)).trans x2; have hp2 := bz.size; clear bz J1)
                  | (go_at_call 25; refine (inWhole_is pi _ l' _ size _ J2.out.i wb Hwb.out).mono ?_; rintro e z3 ⟨rfl, bz⟩; have J3 := Lib.hid (J2.out.grow bz); have x4 := (bz.cell (p := ⟨px, 1, none⟩) (Nat.lt_of_lt_of_le hpx (Nat.le_trans hp1 hp2))).trans x3; have hp3 := bz.size; clear bz J2)
                  | (go_at_call 26; refine (refInWhole_is px _ l' _ size _ J3.out.x wb Hwb.out).mono ?_; rintro e z4 ⟨rfl, bz⟩; have J4 := Lib.hid (J3.out.grow bz); have x5 := (bz.cell (p := ⟨px, 1, none⟩) (Nat.lt_of_lt_of_le hpx (Nat.le_trans hp1 (Nat.le_trans hp2 hp3)))).trans x4; clear bz J3))
                go_wp2_with fail
                go_roundw
                case rel => exact ⟨k + 1, l', o', o2', by go_num, by omega, by omega, J4⟩
                case measure => simp [intOf]; omega
              · go_wp2_with fail
                refine (known_any _).mono ?_
                rintro e w8 ⟨rfl, b8⟩
                have b9 := Lib.hid (hst.out.b.trans (b8.mono hst.out.b.size))
                clear b8
                go_wp2_with fail
                go_ret
                exact ⟨rfl, b9.out⟩
            · go_wp2_with fail
              refine (known_any _).mono ?_
              rintro e w8 ⟨rfl, b8⟩
              have b9 := Lib.hid (hst.out.b.trans (b8.mono hst.out.b.size))
              clear b8
              go_wp2_with fail
              go_ret
              exact ⟨rfl, b9.out⟩
        · refine (begin_no size _ (by omega)).mono ?_
          rintro e w1 ⟨rfl, b1⟩
          have Hb1 := Lib.hid b1
          have hs1 := b1.size
          clear b1
          go_wp2_with fail
          refine (refBegin_no size _ (by omega)).mono ?_
          rintro e w2 ⟨rfl, b2⟩
          have Hb2 := Lib.hid (Hb1.out.trans (b2.mono hs1))
          clear b2
          go_wp2_with fail
          refine wp_loop_rounds 1 ?_
          rw [rounds_succ]
          by_cases h0 : (0 : Int) < L.length
          all_goals first | (exfalso; omega) | skip
          all_goals
            go_wp2_with fail
            refine (known_any _).mono ?_
            rintro e w8 ⟨rfl, b8⟩
            have b9 := Lib.hid (Hb2.out.trans (b8.mono Hb2.out.size))
            clear b8
            go_wp2_with fail
            go_ret
            exact ⟨rfl, b9.out⟩

namespace PieceComesLift
open Go.ChangeShapes Go.WideShapes Go.ChangeAt Go.RowKit Go.Joins Go.Deep
open Go.ChangeMaps (open_string shut_string)

theorem own : ownKnob Try.prog.godebug = none := by kernel_rfl
theorem laidOut : laidOutB Try.prog = true := by kernel_rfl

set_option maxHeartbeats 1000000 in
set_option maxRecDepth 100000 in
theorem lifted (os : Os) (started : os.Started) (H : Type) (enc : TypeId × Value → H) :
    ReturnsInHanded {} Try.checked os 4 .any (Rows.pieceComesSpec.pre6 enc Try.prog Try.f4 Rows.pieceComesRow.domain false) (Rows.pieceComesSpec.post enc Try.prog Try.f4 false true false false) := by
  refine returnsInHanded_of_change (C := Try.checked) own started (by kernel_rfl) Try.func4
    (ChangeSpec.witness6 (enc := enc) (C := Try.checked) false ⟨#[], #[.int .i64 0, .slice none 0 0], []⟩ 8 (by kernel_rfl) (by kernel_rfl) (by kernel_rfl) (by kernel_rfl)) ?_
  intro W base args ds gs before hval0 hW hcnd _
  have hval : ∀ (j : Nat) t v, Try.f4.params[j]? = some t → args[j]? = some v → Value.okWide Try.prog W .any base t v := hval0
  have hW' := hW
  obtain ⟨p, q, hA0, hV, rfl, hfz, hnd⟩ := hW
  have hA : DataW.TrodAll enc Try.prog W 0 (fun _ => true) true Try.f4.params.toList args.toList ds p := hA0
  rw [Try.params4] at hA hval
  obtain ⟨v0, vs0, d0, ds0, p0, q0, hargs, rfl, rfl, h0, r0⟩ := trodAll_cons hA
  obtain ⟨v1, vs1, d1, ds1, p1, q1, rfl, rfl, rfl, h1, r1⟩ := trodAll_cons r0
  obtain ⟨rfl, rfl, rfl⟩ := trodAll_nil r1
  obtain rfl : args = #[v0, v1] := by cases args; simp_all
  obtain ⟨rfl, rfl⟩ := trodVars_none hV
  have k0 := h0
  have lt0 : ∀ x ∈ p0, x.block < W.heap.size := by obtain ⟨m, hm⟩ := k0; exact DataW.trod_lt m _ _ _ hm
  have k1 := h1
  have lt1 : ∀ x ∈ p1, x.block < W.heap.size := by obtain ⟨m, hm⟩ := k1; exact DataW.trod_lt m _ _ _ hm
  have post : ∀ e W', e = Ending.returned (.bool true) → Below W.heap.size W W' → ∃ v, e = .returned v ∧ Rows.pieceComesSpec.post enc Try.prog Try.f4 false true false false W #[v0, v1] v W' := by
    intro e W' he bel
    subst he
    exact ⟨_, rfl, _, _, _, [], _, [], hW', trodAll_mk1 (shut_bool Try.underlying4 _), (trodAll_cons_mk (Below.trod laidOut (by kernel_rfl) (of_decide_eq_true (by kernel_rfl)) k0 bel lt0) (trodAll_cons_mk (Below.trod laidOut (by kernel_rfl) (of_decide_eq_true (by kernel_rfl)) k1 bel lt1) trodAll_mk0)), rfl, bel.frame _, fun h => by cases h⟩
  clear hW' hcnd hfz hnd hA0 hA hval0
  obtain ⟨n, rfl⟩ := open_int (hval 0 3 v0 rfl rfl)
  obtain ⟨bo, L, bcap, rfl, hL, hrow⟩ := open_bits (hval 1 38 v1 rfl rfl) h1
  exact (comes_walk n bo bcap L W hL hrow).mono fun e W' ⟨he, bel⟩ => post e W' he bel

theorem over : Rows.pieceComesRow.holds Try.pinned (OpenSpec.ofChange Rows.pieceComesSpec) :=
  OpenClaim.holds_of_wide 4 Try.f4 rfl rfl rfl rfl rfl rfl rfl ⟨rfl, rfl, rfl, rfl, rfl⟩ rfl rfl rfl rfl rfl (by kernel_rfl) Try.func4 (by kernel_rfl)
    (of_decide_eq_true (by kernel_rfl)) (by unfold Func.isWrapper; first | (rw [if_pos (by decide +kernel)]; kernel_rfl) | (rw [if_neg (by decide +kernel)]; exact ⟨rfl, rfl⟩))
    (fun os started H enc _ => lifted os started H enc)
end PieceComesLift

/-- The statement. -/
theorem pieceComes_holds : Rows.PieceComesSaid := PieceComesLift.over
#print axioms pieceComes_holds
end Go.Proofs.Ytclbplodbmldpaa
