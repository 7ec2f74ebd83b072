/- PieceGoes: of bytes that go, and every row of what is told to have come, each piece. -/
import Derived.Test.YtclbplodbmldpaaPcKnown
import Derived.Test.YtclbplodbmldpaaRows
namespace Go.Proofs.Ytclbplodbmldpaa
open Go.RowKit

/-- Both of them, under way. -/
structure PInv (W w : World) (po go px gx : Nat) (l : List UInt8) (k : Nat) : Prop where
  o : SAt w po go 55 l k
  x : SAt w px gx 29 l k
  b : Below W.heap.size W w
  hk : k ≤ l.length
structure PFix (W : World) (po go px gx : Nat) (l : List UInt8) : Prop where
  hpo : W.heap.size ≤ po
  hpx : W.heap.size ≤ px
  ne : po ≠ px
  hgo : go ≠ po
  hgx : gx ≠ px
  gox : 0 < l.length → go ≠ px
  gxo : 0 < l.length → gx ≠ po
theorem PInv.grow {W w w' : World} {po go px gx : Nat} {l : List UInt8} {k : Nat} (h : PInv W w po go px gx l k) (b : Below w.heap.size w w') : PInv W w' po go px gx l k := ⟨h.o.grow b, h.x.grow b, h.b.trans (b.mono h.b.size), h.hk⟩
theorem PInv.keep {W w w' : World} {po go px gx : Nat} {l : List UInt8} {k : Nat} {S : Nat → Prop} (h : PInv W w po go px gx l k) (kp : Keeps w w' S) (hS : ∀ x, S x → W.heap.size ≤ x ∧ x ≠ po ∧ x ≠ px ∧ (0 < l.length → x ≠ go ∧ x ≠ gx)) : PInv W w' po go px gx l k :=
  ⟨h.o.keeps kp (fun s => (hS _ s).2.1 rfl) (fun hl s => ((hS _ s).2.2.2 hl).1 rfl), h.x.keeps kp (fun s => (hS _ s).2.2.1 rfl) (fun hl s => ((hS _ s).2.2.2 hl).2 rfl), h.b.trans (kp.below (fun k s => (hS k s).1) h.b.size), h.hk⟩
/-- Bytes of the call's own are written over. -/
theorem PInv.spoilt {W w v w' : World} {po go px gx : Nat} {l q : List UInt8} {k base cap : Nat} {ao : Option Addr} (h : PInv W w po go px gx l k) (h1 : PInv W v po go px gx l k) (hv : v.heap.size ≤ base) (ho : OwnB w base ao cap q) (kp : Keeps w w' (fun x => ∃ a, ao = some a ∧ a.block = x)) : PInv W w' po go px gx l k :=
  h.keep kp (fun x ⟨a, e, hx⟩ => by
    have := own_lt ho x (by rw [e]; exact congrArg some hx)
    have h2 := h1.o.lt
    have h3 := h1.x.lt
    have h4 := h1.b.size
    refine ⟨by omega, by omega, by omega, fun hl => ?_⟩
    have h5 := h1.o.glt hl
    have h6 := h1.x.glt hl
    exact ⟨by omega, by omega⟩)

set_option maxRecDepth 20000 in
set_option maxHeartbeats 4000000 in
theorem goes_walk (ao : Option Addr) (cap : Nat) (l : List UInt8) (bo : Option Addr) (bcap : Nat) (A : List Int) (W : World) (h0 : ao = none → l.length = 0 ∧ cap = 0) (hl : BAt W ao l) (hlc : l.length ≤ cap) (hcm : cap ≤ 9223372036854775807) (hA : A.length ≤ 9223372036854775807) (hrow : 0 < A.length → ∃ b off, bo = some ⟨b, off, none⟩ ∧ b < W.heap.size ∧ ∀ i, (hi : i < A.length) → W.cell? ⟨b, off + i, none⟩ = some (.int .i64 A[i])) :
    Calls Try.prog 3 #[.slice ao l.length cap, .slice bo A.length bcap] W fun e w' => e = .returned (.bool true) ∧ Below W.heap.size W w' := by
  have H0 := Lib.hid h0
  have Hl := Lib.hid hl
  have Hrow := Lib.hid hrow
  clear h0 hl hrow
  by_cases hm : (3000 : Int) < l.length
  · clear hlc hcm hA
    go_enter Try.func3, Try.ntmps3
    go_wp2_with fail
    go_ret
    exact ⟨rfl, (by repeat (first | with_reducible exact Below.refl _ _ | with_reducible assumption | with_reducible refine Below.drew ?_ | with_reducible refine below_drawn ?_ | with_reducible refine Below.alloc ?_ (by first | omega | (simp; done) | (simp; omega) | (simp at *; omega)) _ | with_reducible refine Below.setCell ?_ (by first | omega | (simp; done) | (simp; omega) | (simp at *; omega)) _ | with_reducible refine Below.trans ?_ (Below.mono (by assumption) (by first | omega | (simp; done) | (simp; omega) | (simp at *; omega)))))⟩
  · go_enter Try.func3, Try.ntmps3
    go_wp2_with fail
    refine (roomy_any ao cap l _ H0.out Hl.out (by omega)).mono ?_
    rintro e w1 ⟨g0, c0, rfl, ho, hb1⟩
    have hs1 := hb1.size
    have hle := ho.le
    simp only [List.length_append, List.length_cons, List.length_nil] at hle
    have hg0 := own_lt ho g0 rfl
    have Ho := Lib.hid ho
    have Hb1 := Lib.hid hb1
    clear ho hb1
    go_wp2_with fail
    refine (new_any (some ⟨g0, 0, none⟩) c0 l _ (fun h => (nomatch h)) (by have := own_short Ho.out l.length (by simp); rw [List.take_left] at this; exact this.at) (by omega)).mono ?_
    rintro e w2 ⟨po, go, rfl, hpo, hb2, hpo1, hgo1, hgp⟩
    have hs2 := hb2.size
    have hplt := hpo.lt
    have hglt := hpo.glt
    have ho2 := own_grow Ho.out hb2
    have hbb := Hb1.out.trans (hb2.mono hs1)
    clear Ho Hb1
    have Ho := Lib.hid ho2
    have Hpo := Lib.hid hpo
    have Hb2 := Lib.hid hbb
    clear ho2 hpo hbb hb2
    go_wp2_with fail
    obtain ⟨gx, hgx, hgxn⟩ : ∃ gx, (0 < l.length → ∃ off, ao = some ⟨gx, off, none⟩ ∧ gx < W.heap.size ∧ BRow W gx off l) ∧ (gx < W.heap.size ∨ gx = w2.heap.size + 1) := by
      by_cases hp : 0 < l.length
      · obtain ⟨b, off, e, hb, hr⟩ := Hl.out hp
        exact ⟨b, fun _ => ⟨off, e, hb, hr⟩, .inl hb⟩
      · exact ⟨w2.heap.size + 1, fun h => absurd h hp, .inr rfl⟩
    have hinv : PInv W (w2.alloc (.cells #[.slice ao l.length cap, .int .i64 0] 29)) po go w2.heap.size gx l 0 :=
      ⟨Hpo.out.grow ((Below.refl _ _).alloc (Nat.le_refl _) _), ⟨ao, cap, heap_new _ _, hlc, hcm, H0.out, fun hp => by
        obtain ⟨off, e, hb, hr⟩ := hgx hp
        exact ⟨off, e, by simp; omega, hr.below hb ((Hb2.out.alloc (by omega) _))⟩⟩, Hb2.out.alloc (by omega) _, Nat.zero_le _⟩
    have hfx : PFix W po go w2.heap.size gx l := ⟨by omega, by omega, by omega, hgp, by omega, fun hp => by have := hglt hp; omega, fun hp => by
      obtain ⟨off, e, hb, hr⟩ := hgx hp
      omega⟩
    have ho2 := own_grow Ho.out ((Below.refl w2.heap.size w2).alloc (Nat.le_refl _) (.cells #[.slice ao l.length cap, .int .i64 0] 29))
    have hgxW : 0 < l.length → gx < W.heap.size := fun hp => (hgx hp).choose_spec.2.1
    have hgo2 : 0 < l.length → go < w2.heap.size := hglt
    have hpx : ∃ px, px = w2.heap.size := ⟨_, rfl⟩
    obtain ⟨px, hpx⟩ := hpx
    rw [← hpx] at hinv hfx ⊢
    have Hpx := Lib.hid hpx
    clear hpx
    have Hinv := Lib.hid hinv
    have Hfx := Lib.hid hfx
    clear Ho
    have Ho := Lib.hid ho2
    clear hinv hfx ho2 hgx hgxn hglt
    refine (spoil_at (l.length + 1) (some ⟨g0, 0, none⟩) c0 W.heap.size (l ++ [171]) _ Ho.out (by simp) (by simp; omega) (by simp; omega)).mono ?_
    rintro e w3 ⟨rfl, hk3⟩
    have hi3 : PInv W w3 po go px gx l 0 := Hinv.out.keep hk3 (fun x ⟨a, e, hx⟩ => by
      simp only [Option.some.injEq] at e
      subst e hx
      have hpx := Hpx.out
      exact ⟨by simp; omega, by simp; omega, by simp; omega, fun hp => by have := hgxW hp; exact ⟨by simp; omega, by simp; omega⟩⟩)
    have hs3 := hk3.size
    clear Hinv Hpo Hb2 Ho hk3
    have Hinv := Lib.hid hi3
    clear hi3
    go_wp2_with fail
    go_loopw [8] (fun i wr => ∃ (n k : Nat), i = .int .i64 n ∧ n ≤ A.length + 1 ∧ n ≤ 101 ∧ Hid (PInv W wr po go px gx l k)) (fun i _ => 101 - (intOf i).toNat)
    case atStart => exact ⟨0, 0, rfl, by omega, by omega, Hinv⟩
    case round =>
      obtain ⟨n, k, rfl, hn1, hn2, hst⟩ := hrel
      clear Hinv hg0 hgo2 Hpx hplt hgp hgo1 hpo1 hgxW
      by_cases hn3 : (n : Int) ≤ A.length
      · by_cases hn4 : (n : Int) ≤ 100
        · obtain ⟨wb, hwb⟩ : ∃ wb, wb = ((k : Int) == (l.length : Int)) := ⟨_, rfl⟩
          have Hwb := Lib.hid hwb
          clear hwb
          have hk63 : (k : Int) ≤ 3000 := by have := hst.out.hk; omega
          go_wp2_with fail
          refine (next_any po go l k _ hst.out.o hst.out.hk (by omega)).mono ?_
          rintro e v1 ⟨ao1, c1, rfl, q1, b1⟩
          have I1 := Lib.hid (hst.out.grow b1)
          have Hsz1 := Lib.hid b1.size
          have Q1 := Lib.hid q1
          clear q1 b1
          go_wp2_with fail
          refine (refNext_any px gx l k _ I1.out.x I1.out.hk (by omega)).mono ?_
          rintro e v2 ⟨ao2, c2, rfl, q2, b2⟩
          have I2 := Lib.hid (I1.out.grow b2)
          have Hsz2 := Lib.hid (Nat.le_trans Hsz1.out b2.size)
          have Q3 := Lib.hid (own_grow Q1.out b2)
          have Q2 := Lib.hid q2
          have hpl := pieceOf_length l k
          have hsame := same_any ao1 ao2 c1 c2 (pieceOf l k) (pieceOf l k) v2 Q3.out.at Q2.out.at (by omega) (by omega)
          simp only [beq_self_eq_true] at hsame
          have Hsame := Lib.hid hsame
          have Hpl := Lib.hid hpl
          clear q2 b2 hsame I1 Q1 hpl
          go_wp2_with fail
          refine Hsame.out.mono ?_
          rintro e v3 ⟨rfl, b3⟩
          have I3 := Lib.hid (I2.out.grow b3)
          have Hsz3 := Lib.hid (Nat.le_trans Hsz2.out b3.size)
          have Q4 := Lib.hid (own_grow Q3.out b3)
          clear Hsame Q2 Q3 I2 b3
          have hw1 := outWhole_any po go l k v3 I3.out.o
          rw [← Hwb.out] at hw1
          have Hw1 := Lib.hid hw1
          clear hw1
          go_wp2_with fail
          refine Hw1.out.mono ?_
          rintro e v4 ⟨rfl, b4⟩
          have I4 := Lib.hid (I3.out.grow b4)
          have Hsz4 := Lib.hid (Nat.le_trans Hsz3.out b4.size)
          have Q5 := Lib.hid (own_grow Q4.out b4)
          clear Hw1 I3 Q4 b4
          have hw1 := refWhole_any px gx l k v4 I4.out.x
          rw [← Hwb.out] at hw1
          have Hw1 := Lib.hid hw1
          clear hw1
          go_wp2_with fail
          refine Hw1.out.mono ?_
          rintro e v5 ⟨rfl, b5⟩
          have I5 := Lib.hid (I4.out.grow b5)
          have Hsz5 := Lib.hid (Nat.le_trans Hsz4.out b5.size)
          have Q6 := Lib.hid (own_grow Q5.out b5)
          clear Hw1 I4 Q5 b5
          go_wp2_with fail
          refine (outSize_any po go l k _ I5.out.o).mono ?_
          rintro e v6 ⟨rfl, b6⟩
          have I6 := Lib.hid (I5.out.grow b6)
          have Q7 := Lib.hid (own_grow Q6.out b6)
          have Hsz7 := Lib.hid (Nat.le_trans Hsz5.out b6.size)
          clear I5 Q6 b6
          go_wp2_with fail
          refine (spoil_any ao1 c1 wr.heap.size (pieceOf l k) _ Q7.out Hsz7.out (by have := Hpl.out; omega)).mono ?_
          rintro e v7 ⟨rfl, k7⟩
          have I7 := Lib.hid (I6.out.spoilt hst.out (Nat.le_refl _) Q7.out k7)
          clear I6 Q7 k7
          by_cases hlt : (n : Int) < A.length
          · obtain ⟨b, off, rfl, hb, hr⟩ := Hrow.out (by omega)
            have hc := (I7.out.b.cell (p := ⟨b, off + n, none⟩) hb).trans (hr n (by omega))
            obtain ⟨a, ha⟩ : ∃ a, a = A[n]'(by omega) := ⟨_, rfl⟩
            rw [← ha] at hc
            clear ha hr
            go_wp2_with fail
            go_region_held3 (fun w' => w'.cell? ⟨b, off + n, none⟩ = some (.int .i64 a)) (go_keep) (first
              | (go_at_call 16; refine (outAck_any po go l k a _ (I7.out.o.grow (Below.refl _ _).drew) Hfx.out.hgo).mono ?_; rintro e y1 ⟨rfl, o1, k1⟩; have hcy := (k1.cell (p := ⟨b, off + n, none⟩) (Nat.lt_of_lt_of_le hb I7.out.b.size) (fun h => by have := Hfx.out.hpo; have h : b = po := h; omega)).trans hc; have X1 := Lib.hid ((I7.out.x.grow (Below.refl _ _).drew).keeps k1 (fun h => Hfx.out.ne h.symm) (fun hl h => Hfx.out.gxo hl h)); have O1 := Lib.hid o1; have K1 := Lib.hid k1; clear o1 k1)
              | (go_at_call 17; refine (refAck_any px gx l k a _ X1.out Hfx.out.hgx).mono ?_; rintro e y2 ⟨rfl, x2, k2⟩; have hcy2 := (k2.cell (p := ⟨b, off + n, none⟩) (Nat.lt_of_lt_of_le hb (Nat.le_trans I7.out.b.size K1.out.size)) (fun h => by have := Hfx.out.hpx; have h : b = px := h; omega)).trans hcy; have X2 := Lib.hid x2; have K2 := Lib.hid k2; clear x2 k2))
            go_wp2_with fail
            go_roundw
            case rel => exact ⟨n + 1, ackOf l k a, by go_num, by omega, by omega, Lib.hid ⟨O1.out.keeps K2.out (fun h => Hfx.out.ne h) (fun hl h => Hfx.out.gox hl h), X2.out, by
              have h1 := I7.out.b
              have h2 := K1.out.below (B := W.heap.size) (fun x h => by have := Hfx.out.hpo; have h : x = po := h; omega) h1.size
              have h3 := K2.out.below (B := W.heap.size) (fun x h => by have := Hfx.out.hpx; have h : x = px := h; omega) (Nat.le_trans h1.size h2.size)
              exact (h1.drew.trans h2).trans h3, ackOf_le l k a I7.out.hk⟩⟩
            case measure => simp [intOf]; omega
          · have hd : n = A.length := by omega
            have hd1 : ((n : Int) < (A.length : Int)) = False := eq_false hlt
            have hd2 : decide ((n : Int) < (A.length : Int)) = false := decide_eq_false hlt
            have hd3 : ¬ n < A.length := by omega
            clear hd
            go_wp2_with fail
            go_quiet (fail)
            go_wp2_with fail
            go_roundw
            case rel => exact ⟨n + 1, k, by go_num, by omega, by omega, Lib.hid (I7.out.grow (below_drawn (Below.refl _ _)))⟩
            case measure => simp [intOf]; omega
        · go_wp2_with fail
          refine (known_any _).mono ?_
          rintro e w8 ⟨rfl, b8⟩
          have b9 := Lib.hid (hst.out.b.trans (b8.mono hst.out.b.size))
          clear b8
          go_wp2_with fail
          go_ret
          exact ⟨rfl, b9.out⟩
      · go_wp2_with fail
        refine (known_any _).mono ?_
        rintro e w8 ⟨rfl, b8⟩
        have b9 := Lib.hid (hst.out.b.trans (b8.mono hst.out.b.size))
        clear b8
        go_wp2_with fail
        go_ret
        exact ⟨rfl, b9.out⟩

namespace PieceGoesLift
open Go.ChangeShapes Go.WideShapes Go.ChangeAt Go.RowKit Go.Joins Go.Deep
open Go.ChangeMaps (open_string shut_string)

theorem own : ownKnob Try.prog.godebug = none := by kernel_rfl
theorem laidOut : laidOutB Try.prog = true := by kernel_rfl

set_option maxHeartbeats 1000000 in
set_option maxRecDepth 100000 in
theorem lifted (os : Os) (started : os.Started) (H : Type) (enc : TypeId × Value → H) :
    ReturnsInHanded {} Try.checked os 3 .any (Rows.pieceGoesSpec.pre6 enc Try.prog Try.f3 Rows.pieceGoesRow.domain false) (Rows.pieceGoesSpec.post enc Try.prog Try.f3 false true false false) := by
  refine returnsInHanded_of_change (C := Try.checked) own started (by kernel_rfl) Try.func3
    (ChangeSpec.witness6 (enc := enc) (C := Try.checked) false ⟨#[], #[.slice none 0 0, .slice none 0 0], []⟩ 8 (by kernel_rfl) (by kernel_rfl) (by kernel_rfl) (by kernel_rfl)) ?_
  intro W base args ds gs before hval0 hW hcnd _
  have hval : ∀ (j : Nat) t v, Try.f3.params[j]? = some t → args[j]? = some v → Value.okWide Try.prog W .any base t v := hval0
  have hW' := hW
  obtain ⟨p, q, hA0, hV, rfl, hfz, hnd⟩ := hW
  have hA : DataW.TrodAll enc Try.prog W 0 (fun _ => true) true Try.f3.params.toList args.toList ds p := hA0
  rw [Try.params3] at hA hval
  obtain ⟨v0, vs0, d0, ds0, p0, q0, hargs, rfl, rfl, h0, r0⟩ := trodAll_cons hA
  obtain ⟨v1, vs1, d1, ds1, p1, q1, rfl, rfl, rfl, h1, r1⟩ := trodAll_cons r0
  obtain ⟨rfl, rfl, rfl⟩ := trodAll_nil r1
  obtain rfl : args = #[v0, v1] := by cases args; simp_all
  obtain ⟨rfl, rfl⟩ := trodVars_none hV
  have k0 := h0
  have lt0 : ∀ x ∈ p0, x.block < W.heap.size := by obtain ⟨m, hm⟩ := k0; exact DataW.trod_lt m _ _ _ hm
  have k1 := h1
  have lt1 : ∀ x ∈ p1, x.block < W.heap.size := by obtain ⟨m, hm⟩ := k1; exact DataW.trod_lt m _ _ _ hm
  have post : ∀ e W', e = Ending.returned (.bool true) → Below W.heap.size W W' → ∃ v, e = .returned v ∧ Rows.pieceGoesSpec.post enc Try.prog Try.f3 false true false false W #[v0, v1] v W' := by
    intro e W' he bel
    subst he
    exact ⟨_, rfl, _, _, _, [], _, [], hW', trodAll_mk1 (shut_bool Try.underlying4 _), (trodAll_cons_mk (Below.trod laidOut (by kernel_rfl) (of_decide_eq_true (by kernel_rfl)) k0 bel lt0) (trodAll_cons_mk (Below.trod laidOut (by kernel_rfl) (of_decide_eq_true (by kernel_rfl)) k1 bel lt1) trodAll_mk0)), rfl, bel.frame _, fun h => by cases h⟩
  clear hW' hcnd hfz hnd hA0 hA hval0
  obtain ⟨ao, l, cap, rfl, hlc, hcm, hn0, hl⟩ := open_bytes (hval 0 22 v0 rfl rfl) h0
  obtain ⟨bo, A, bcap, rfl, hAc, hAm, hrow⟩ := open_intsB (hval 1 23 v1 rfl rfl) h1
  exact (goes_walk ao cap l bo bcap A W hn0 hl hlc (by unfold maxLen at hcm; omega) (by unfold maxLen at hAm; omega) hrow).mono fun e W' ⟨he, bel⟩ => post e W' he bel

theorem over : Rows.pieceGoesRow.holds Try.pinned (OpenSpec.ofChange Rows.pieceGoesSpec) :=
  OpenClaim.holds_of_wide 3 Try.f3 rfl rfl rfl rfl rfl rfl rfl ⟨rfl, rfl, rfl, rfl, rfl⟩ rfl rfl rfl rfl rfl (by kernel_rfl) Try.func3 (by kernel_rfl)
    (of_decide_eq_true (by kernel_rfl)) (by unfold Func.isWrapper; first | (rw [if_pos (by decide +kernel)]; kernel_rfl) | (rw [if_neg (by decide +kernel)]; exact ⟨rfl, rfl⟩))
    (fun os started H enc _ => lifted os started H enc)
end PieceGoesLift

/-- The statement. -/
theorem pieceGoes_holds : Rows.PieceGoesSaid := PieceGoesLift.over
#print axioms pieceGoes_holds
end Go.Proofs.Ytclbplodbmldpaa
