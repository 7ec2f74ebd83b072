/- OctetRows: rows as bytes, each with its length, one behind the other, all at once or one by one; and back. -/
import Derived.Test.YtofkjogjnhnchaaObj
import Derived.Test.YtofkjogjnhnchaaRef
import Derived.Test.YtofkjogjnhnchaaBackNum
import Derived.Test.YtofkjogjnhnchaaHeavy
import Derived.Test.YtofkjogjnhnchaaRows
namespace Go.Proofs.Ytofkjogjnhnchaa
open Go.RowKit Go.Joins

theorem encRows_take (L : List RowR) (k : Nat) (h : k < L.length) : encRows (L.take (k + 1)) = encRows (L.take k) ++ encRow L[k].bs := by
  rw [List.take_succ_eq_append_getElem h]
  simp only [encRows, List.flatMap_append, List.flatMap_cons, List.flatMap_nil, List.append_nil]
theorem flatR_le (L : List RowR) (k : Nat) : (flatR (L.take k)).length ≤ (flatR L).length := by
  have : flatR L = flatR (L.take k) ++ flatR (L.drop k) := by
    unfold flatR; rw [← List.flatMap_append, List.take_append_drop]
  rw [this, List.length_append]; omega
theorem encRows_take_le (L : List RowR) (k : Nat) : (encRows (L.take k)).length ≤ 10 * L.length + (flatR L).length := by
  have h1 := encRows_length (L.take k)
  have h2 := flatR_le L k
  have h3 : (L.take k).length ≤ L.length := List.length_take_le' _ _
  omega
theorem bat_short {w : World} {base g cap : Nat} {l : List UInt8} (h : OwnB w base (some ⟨g, 0, none⟩) cap (l ++ [171])) : BAt w (some ⟨g, 0, none⟩) l := by
  have := own_short h l.length (by simp)
  rw [List.take_left] at this
  exact this.at
theorem bin_short {w : World} {base g cap : Nat} {l : List UInt8} (h : OwnB w base (some ⟨g, 0, none⟩) cap (l ++ [171])) (D : Nat → Prop) (hD : D g) : BIn w D (some ⟨g, 0, none⟩) l := fun hp => by
  obtain ⟨b, off, e, hb, hr⟩ := bat_short h hp
  simp only [Option.some.injEq, Addr.mk.injEq, and_true] at e
  obtain ⟨rfl, rfl⟩ := e
  exact ⟨g, 0, rfl, hb, hD, hr⟩

set_option maxRecDepth 8000 in
set_option maxHeartbeats 4000000 in
theorem rows_walk (ao : Option Addr) (cap : Nat) (L : List RowR) (ro' : Option Addr) (rcap : Nat) (raw : List UInt8) (W : World) (hL : L.length ≤ 9223372036854775807) (hr : RsAt W (fun x => x < W.heap.size) ao L) (hrn : ro' = none → raw.length = 0 ∧ rcap = 0) (hra : BAt W ro' raw) (hrm : raw.length ≤ 9223372036854775807) :
    Calls Try.prog 7 #[.slice ao L.length cap, .slice ro' raw.length rcap] W fun e w' => e = .returned (.bool true) ∧ Below W.heap.size W w' := by
  have Hr := Lib.hid hr
  have Hrn := Lib.hid hrn
  have Hra := Lib.hid hra
  clear hr hrn hra
  obtain ⟨i0, hi, hz0, hz1, hz2⟩ := info_parts byteInfo
  go_enter Try.func7, Try.ntmps7
  go_wp2_with fail
  refine (heavy_any ao cap L _ W Hr.out hL).mono ?_
  rintro e w0 ⟨he, rfl⟩
  rcases he with rfl | ⟨rfl, hbound⟩
  · go_wp2_with fail
    go_ret
    exact ⟨rfl, (by repeat (first | with_reducible exact Below.refl _ _ | with_reducible assumption | with_reducible refine Below.drew ?_ | with_reducible refine below_drawn ?_ | with_reducible refine Below.alloc ?_ (by first | omega | (simp; done) | (simp; omega) | (simp at *; omega)) _ | with_reducible refine Below.setCell ?_ (by first | omega | (simp; done) | (simp; omega) | (simp at *; omega)) _ | with_reducible refine Below.trans ?_ (Below.mono (by assumption) (by first | omega | (simp; done) | (simp; omega) | (simp at *; omega)))))⟩
  · by_cases hbig : (4000 : Int) < raw.length
    · go_wp2_with fail
      go_ret
      exact ⟨rfl, (by repeat (first | with_reducible exact Below.refl _ _ | with_reducible assumption | with_reducible refine Below.drew ?_ | with_reducible refine below_drawn ?_ | with_reducible refine Below.alloc ?_ (by first | omega | (simp; done) | (simp; omega) | (simp at *; omega)) _ | with_reducible refine Below.setCell ?_ (by first | omega | (simp; done) | (simp; omega) | (simp at *; omega)) _ | with_reducible refine Below.trans ?_ (Below.mono (by assumption) (by first | omega | (simp; done) | (simp; omega) | (simp at *; omega)))))⟩
    · go_wp2_with fail
      have S0 : Hid (St w0 ((w0.alloc (.cells #[.slice none 0 0] 25)).alloc (.cells #[.slice none 0 0] 25)) [thWr w0.heap.size w0.heap.size [] none, thOwn w0.heap.size none 0 [], thWr (w0.heap.size + 1) w0.heap.size [] none]) :=
        ((((St.start w0).newWr w0.heap.size rfl w0.heap.size).newWr (w0.heap.size + 1) (by simp) w0.heap.size).nil).pull (A := [_, _])
      obtain ⟨p1, hp1⟩ : ∃ p1, p1 = w0.heap.size := ⟨_, rfl⟩
      go_loopw [8, 7] (fun s8 s7 wr => ∃ (k : Nat) (wo : Option Addr) (wc : Nat) (o1 : Option Nat), s8 = .int .i64 k ∧ s7 = .slice wo (encRows (L.take k)).length wc ∧ k ≤ L.length ∧ Hid (St w0 wr [thWr w0.heap.size w0.heap.size (encRows (L.take k)) o1, thOwn w0.heap.size wo wc (encRows (L.take k)), thWr (w0.heap.size + 1) w0.heap.size [] none])) (fun s8 _ _ => L.length - (intOf s8).toNat)
      case atStart => exact ⟨0, none, 0, none, rfl, rfl, by omega, S0⟩
      case round =>
        clear S0
        obtain ⟨k, wo, wc, o1, rfl, rfl, hk, S⟩ := hrel
        have hel := encRows_take_le L k
        have hbs := S.out.b.size
        by_cases hlt : (k : Int) < L.length
        · obtain ⟨b, off, rfl, hb, -, hrow⟩ := Hr.out (by omega)
          have hrw := hrow k (by omega)
          obtain ⟨ro, rc, rb, hLk⟩ : ∃ ro rc rb, (⟨ro, rc, rb⟩ : RowR) = L[k]'(by omega) := ⟨_, _, _, rfl⟩
          rw [← hLk] at hrw
          have cW : w0.cell? ⟨b, off + k, none⟩ = some (.slice ro rb.length rc) := hrw.c
          have c0 := (S.out.b.cell (p := ⟨b, off + k, none⟩) hb).trans cW
          have hle : rb.length ≤ rc := hrw.le
          have hcm : rc ≤ 9223372036854775807 := hrw.cm
          have hn0 : ro = none → rb.length = 0 ∧ rc = 0 := hrw.n0
          have hat : BAt w0 ro rb := hrw.at_.at
          have hrb : rb.length ≤ 4000 := by
            have h1 := flatR_take L k (by omega)
            have h2 := flatR_le L (k + 1)
            rw [← hLk] at h1
            simp only at h1
            omega
          have hen : encRows (L.take (k + 1)) = encRows (L.take k) ++ encRow rb := by rw [encRows_take L k (by omega), ← hLk]
          have Hn0 := Lib.hid hn0
          have Hat := Lib.hid hat
          have Hen := Lib.hid hen
          clear hn0 hat hen hrw hrow hLk
          go_wp2_with fail
          refine (roomy_any ro rc rb _ Hn0.out (Hat.out.below S.out.b) (by omega)).mono ?_
          rintro e w1 ⟨g0, k0, rfl, ho1, hb1⟩
          have S1 := Lib.hid (S.out.own hb1 ho1)
          have hg0 := own_lt ho1 g0 rfl
          have hp1 : w0.heap.size < wr.heap.size := S.out.head.lt
          have ho1l := S.out.head.own_lt
          have hkc := ho1.le
          simp only [List.length_append, List.length_cons, List.length_nil] at hkc
          have hq1 : rb.length ≤ k0 := by omega
          have hq2 : (rb.length : Int) ≤ k0 := by omega
          have c1 := (S1.out.b.cell (p := ⟨b, off + k, none⟩) hb).trans cW
          have Ho1 := Lib.hid ho1
          have Ho1l := Lib.hid ho1l
          have hs1 := hb1.size
          clear ho1 ho1l hb1 S c0
          go_wp2_with fail
          have S1x := Lib.hid ((S1.out.grow (below_alloc w1 (.cells #[.slice (some ⟨g0, 0, none⟩) rb.length k0] 23))).pull (A := [_]))
          have hrs : RsAt (w1.alloc (.cells #[.slice (some ⟨g0, 0, none⟩) rb.length k0] 23)) (fun x => x = g0 ∨ x = w1.heap.size) (some ⟨w1.heap.size, 0, none⟩) [⟨some ⟨g0, 0, none⟩, k0, rb⟩] := fun _ =>
            ⟨w1.heap.size, 0, rfl, by simp, .inr rfl, fun i hi => by
              match i, hi with
              | 0, _ => exact rat_of (by rw [cell_alloc_mark_at _ _ _ _ _ _ rfl]; rfl) hq1 hkc.2 ((bin_short Ho1.out _ (.inl rfl)).grow (below_alloc _ _))⟩
          refine (wbytes_any w0.heap.size w0.heap.size (encRows (L.take k)) o1 _ 1 [⟨some ⟨g0, 0, none⟩, k0, rb⟩] _ _ S1x.out.head hrs (by omega) (fun g hg s => by have := (Ho1l.out g hg).1; omega) (fun x hx => by simp only [World.alloc, Array.size_push]; omega) (by simp only [World.alloc, Array.size_push]; omega) (by simp [flatR]; omega)).mono ?_
          rintro e w2 ⟨rfl, h2⟩
          obtain ⟨o2, hS2⟩ := S1x.out.wrote h2
          rw [show encRows [⟨some ⟨g0, 0, none⟩, k0, rb⟩] = encRow rb from by simp [encRows], ← Hen.out] at hS2
          have S2 := Lib.hid (hS2.pull (A := [_]))
          have c2 := (S2.out.b.cell (p := ⟨b, off + k, none⟩) hb).trans cW
          clear h2 hS2 hrs S1 S1x Ho1 Ho1l c1
          go_wp2_with fail
          refine (stands_yes g0 k0 ro rc rb _ _ S2.out.head (Hat.out.below S2.out.b) (by omega)).mono ?_
          rintro e w3 ⟨rfl, hb3⟩
          have S3 := Lib.hid (S2.out.grow hb3)
          have c3 := (S3.out.b.cell (p := ⟨b, off + k, none⟩) hb).trans cW
          have hsz3 : wr.heap.size ≤ w3.heap.size := by
            have := (S3.out.t.lts _ (List.mem_cons_self) g0 ⟨_, rfl, rfl⟩).1
            omega
          clear hb3 S2 c2
          go_wp2_with fail
          refine (spoil_at (rb.length + 1) (some ⟨g0, 0, none⟩) k0 wr.heap.size (rb ++ [171]) _ S3.out.head (by simp) hsz3 (by simp; omega)).mono ?_
          rintro e w4 ⟨rfl, hk4⟩
          have S4 := Lib.hid (S3.out.lose hk4)
          have c4 := (S4.out.b.cell (p := ⟨b, off + k, none⟩) hb).trans cW
          clear hk4 S3 c3 hsz3
          go_wp2_with fail
          refine (refBytes_any ro rc rb _ Hn0.out (Hat.out.below S4.out.b) (by omega)).mono ?_
          rintro e w5 ⟨xo, xc, rfl, ho5, hb5⟩
          have S5 := Lib.hid ((S4.out.grow hb5).pull (A := [_]))
          have hs5 := S5.out.b.size
          have Ho5 := Lib.hid ho5
          have Hwant := Lib.hid (show OwnB w5 w0.heap.size wo wc (encRows (L.take k)) from S5.out.head)
          have hxl : (encRow rb).length ≤ 4010 := by unfold encRow; rw [List.length_append]; have := (encN_length rb.length).1; omega
          clear ho5 hb5 S4 c4
          go_wp2_with (at_builtin; go_must (refine wpList_append_foot _ rfl (.tmp 49) (.tmp 54) 23 rfl w0.heap.size 5 i0 (.int .u8 0) 1 1 Try.underlying23 hi hz0 hz1 hz2 rfl (by decide) wo (encRows (L.take k)).length wc (bytV (encRows (L.take k))) rfl Hwant.out xo (encRow rb).length xc (bytV (encRow rb)) rfl Ho5.out.none (by rw [bytV_length, Nat.mul_one]) Ho5.out.at.cells (bytV_one _) (by unfold maxLen; omega) (by omega) hs5 ?_))
          intro zo zc w6 hown6 hgrow6 hco6
          have hS6 := S5.out.appended hown6 hgrow6 hco6
          rw [← Hen.out] at hS6
          have S6 := Lib.hid (hS6.pull (A := [_]))
          have hlen : (encRows (L.take k)).length + (encRow rb).length = (encRows (L.take (k + 1))).length := by rw [Hen.out, List.length_append]
          have Hlen := Lib.hid hlen
          clear hown6 hgrow6 hco6 hS6 S5 Ho5 Hwant hlen
          go_wp2_with fail
          go_roundw
          case rel => exact ⟨k + 1, zo, zc, o2, by go_num, by rw [← Hlen.out], by omega, S6⟩
          case measure => simp [intOf]; omega
        · have hkL : L.take k = L := List.take_of_length_le (by omega)
          rw [hkL]
          rw [hkL] at S hel
          clear hkL
          obtain ⟨e, he⟩ : ∃ e, e = encRows L := ⟨_, rfl⟩
          rw [← he] at S hel ⊢
          have He := Lib.hid he
          clear he
          have T0 := Lib.hid (S.out.pull (A := [_, _]))
          have hp1 : w0.heap.size + 1 < wr.heap.size := T0.out.head.lt
          clear S
          go_wp2_with fail
          refine (wbytes_any (w0.heap.size + 1) w0.heap.size [] none ao cap L _ wr T0.out.head (Hr.out.below T0.out.b) (by omega) (fun g hg => by cases hg) (fun x hx => by omega) hbs (by simp; omega)).mono ?_
          rintro e1 w2 ⟨rfl, h2⟩
          obtain ⟨o2, hT⟩ := T0.out.wrote h2
          rw [List.nil_append, ← He.out] at hT
          have T1 := Lib.hid (hT.pull (A := [_]))
          have hbs := T1.out.b.size
          clear h2 hT T0
          go_wp2_with fail
          refine (raw_any w0.heap.size w0.heap.size e o1 ro' rcap raw w2 T1.out.head Hrn.out (Hra.out.below T1.out.b) hbs (by omega)).mono ?_
          rintro e1 w3 ⟨rfl, h3⟩
          obtain ⟨o3, hT⟩ := T1.out.wrote h3
          have T2 := Lib.hid (hT.pull (A := [_]))
          have hbs := T2.out.b.size
          clear h3 hT T1
          go_wp2_with fail
          refine (raw_any (w0.heap.size + 1) w0.heap.size e o2 ro' rcap raw w3 T2.out.head Hrn.out (Hra.out.below T2.out.b) hbs (by omega)).mono ?_
          rintro e1 w4 ⟨rfl, h4⟩
          obtain ⟨o4, hT⟩ := T2.out.wrote h4
          have T3 := Lib.hid (hT.pull (A := [_, _]))
          have hbs := T3.out.b.size
          have Hwant := Lib.hid (show OwnB w4 w0.heap.size wo wc e from T3.out.head)
          clear h4 hT T2
          go_wp2_with (at_builtin; go_must (refine wpList_append_foot _ rfl (.tmp 62) (.tmp 63) 23 rfl w0.heap.size 5 i0 (.int .u8 0) 1 1 Try.underlying23 hi hz0 hz1 hz2 rfl (by decide) wo e.length wc (bytV e) rfl Hwant.out ro' raw.length rcap (bytV raw) rfl Hrn.out (by rw [bytV_length, Nat.mul_one]) (Hra.out.below T3.out.b).cells (bytV_one _) (by unfold maxLen; omega) (by omega) hbs ?_))
          intro zo zc w5 hown5 hgrow5 hco5
          have T4 := Lib.hid (T3.out.appended hown5 hgrow5 hco5)
          obtain ⟨f, hf⟩ : ∃ f, f = e ++ raw := ⟨_, rfl⟩
          have hfl : e.length + raw.length = f.length := by rw [hf, List.length_append]
          rw [← hf] at T4
          rw [hfl]
          have Hf := Lib.hid hf
          have hfm : f.length ≤ 100000 := by omega
          have T5 := Lib.hid (T4.out.pull (A := [_, _]))
          clear hown5 hgrow5 hco5 T3 Hwant hf hfl T4
          go_wp2_with fail
          refine (out_any _ _ _ _ _ T5.out.head (by omega)).mono ?_
          rintro e1 w6 ⟨xo, xc, rfl, ho6, hb6⟩
          have T6 := Lib.hid ((T5.out.grow hb6).pull (A := [_]))
          have Ho6 := Lib.hid ho6
          clear ho6 hb6 T5
          go_wp2_with fail
          refine (same_yes xo zo xc zc f _ Ho6.out.at (show OwnB w6 w0.heap.size zo zc f from T6.out.head).at (by omega)).mono ?_
          rintro e1 w7 ⟨rfl, hb7⟩
          have T7 := Lib.hid ((T6.out.grow hb7).pull (A := [_, _]))
          clear hb7 T6 Ho6
          go_wp2_with fail
          refine (out_any _ _ _ _ _ T7.out.head (by omega)).mono ?_
          rintro e1 w8 ⟨yo, yc, rfl, ho8, hb8⟩
          have T8 := Lib.hid ((T7.out.grow hb8).pull (A := [_]))
          have Ho8 := Lib.hid ho8
          clear ho8 hb8 T7
          go_wp2_with fail
          refine (same_yes yo zo yc zc f _ Ho8.out.at (show OwnB w8 w0.heap.size zo zc f from T8.out.head).at (by omega)).mono ?_
          rintro e1 w9 ⟨rfl, hb9⟩
          have T9 := Lib.hid (T8.out.grow hb9)
          have Hwant := Lib.hid (show OwnB w9 w0.heap.size zo zc f from T9.out.head)
          clear hb9 T8 Ho8
          go_wp2_with fail
          refine (newReader_any zo zc f _ Hwant.out.none Hwant.out.at (by omega)).mono ?_
          rintro e1 w10 ⟨p, g, rfl, hr10, hb10, hp10, hg10⟩
          have T10 := Lib.hid ((((T9.out.newRd hr10 hb10 hp10 hg10).pull (A := [_])).drop.pull (A := [_])).drop.pull (A := [_])).drop
          clear hr10 hb10 hp10 hg10 T9 Hwant
          go_wp2_with fail
          go_loopw [11] (fun s11 wr => ∃ k : Nat, s11 = .int .i64 k ∧ k ≤ L.length ∧ Hid (St w0 wr [thRd p g (encRows (L.drop k) ++ raw) false])) (fun s11 _ => L.length - (intOf s11).toNat)
          case atStart => exact ⟨0, rfl, by omega, by have := T10; rw [Hf.out, He.out] at this; exact this⟩
          case round =>
            clear T10 hlt hk
            obtain ⟨k, rfl, hk, S⟩ := hrel
            by_cases hlt : (k : Int) < L.length
            · obtain ⟨b, off, rfl, hb, -, hrow⟩ := Hr.out (by omega)
              have hrw := hrow k (by omega)
              obtain ⟨ro, rc, rb, hLk⟩ : ∃ ro rc rb, (⟨ro, rc, rb⟩ : RowR) = L[k]'(by omega) := ⟨_, _, _, rfl⟩
              rw [← hLk] at hrw
              have cW : w0.cell? ⟨b, off + k, none⟩ = some (.slice ro rb.length rc) := hrw.c
              have hat : BAt w0 ro rb := hrw.at_.at
              have hrb : rb.length ≤ 4000 := by
                have h1 := flatR_take L k (by omega)
                have h2 := flatR_le L (k + 1)
                rw [← hLk] at h1
                simp only at h1
                omega
              have hdrop : encRows (L.drop k) ++ raw = encRow rb ++ (encRows (L.drop (k + 1)) ++ raw) := by
                rw [show L.drop k = ⟨ro, rc, rb⟩ :: L.drop (k + 1) from by rw [hLk]; exact List.drop_eq_getElem_cons (by omega), encRows_cons, List.append_assoc]
              have hdl : (encRow rb ++ (encRows (L.drop (k + 1)) ++ raw)).length ≤ 100000 := by
                have h1 := encRows_length (L.drop k)
                have h2 : flatR L = flatR (L.take k) ++ flatR (L.drop k) := by unfold flatR; rw [← List.flatMap_append, List.take_append_drop]
                have h3 := congrArg List.length h2
                rw [← hdrop]
                rw [List.length_append] at h3 ⊢
                rw [List.length_drop] at h1
                omega
              have htk := tookOf_enc rb (encRows (L.drop (k + 1)) ++ raw) false (by omega)
              rw [hdrop] at S
              have Hat := Lib.hid hat
              have Htk := Lib.hid htk
              have Hdl := Lib.hid hdl
              clear hat htk hdrop hdl hrw hrow hLk
              go_wp2_with fail
              refine (rdbytes_any p g _ false wr S.out.head (by have := Hdl.out; omega)).mono ?_
              rintro e1 v1 ⟨x, r', b', xo, xc, hx, rfl, hox, hrx, hkx⟩
              rw [Htk.out] at hx
              simp only [Prod.mk.injEq] at hx
              obtain ⟨rfl, rfl, rfl⟩ := hx
              have S1 := Lib.hid (S.out.readOwn hrx hkx (by simp) hox)
              have hws := hkx.size
              have c1 := (S1.out.b.cell (p := ⟨b, off + k, none⟩) hb).trans cW
              clear hox hrx hkx S Htk Hdl
              go_wp2_with fail
              refine (same_yes xo ro xc rc x _ (show OwnB v1 wr.heap.size xo xc x from S1.out.head).at (Hat.out.below S1.out.b) (by omega)).mono ?_
              rintro e1 v2 ⟨rfl, hb2⟩
              have S2 := Lib.hid (S1.out.grow hb2)
              have hws2 := Nat.le_trans hws hb2.size
              clear hb2 S1 c1
              go_wp2_with fail
              refine (spoil_any xo xc wr.heap.size x _ S2.out.head hws2 (by omega)).mono ?_
              rintro e1 v3 ⟨rfl, hk3⟩
              have S3 := Lib.hid (S2.out.lose hk3)
              clear hk3 S2
              go_wp2_with fail
              go_roundw
              case rel => exact ⟨k + 1, by go_num, by omega, S3⟩
              case measure => simp [intOf]; omega
            · have hkL : L.drop k = [] := List.drop_eq_nil_of_le (by omega)
              rw [hkL, show encRows [] ++ raw = raw from rfl] at S
              clear hkL
              go_wp2_with fail
              refine (left_any p g raw false _ S.out.head).mono ?_
              rintro e1 v1 ⟨rfl, rfl⟩
              go_wp2_with fail
              refine (rdraw_yes p g raw false raw.length _ S.out.head (by omega) (by omega)).mono ?_
              rintro e1 v1 ⟨xo, xc, rfl, hox, hrx, hkx⟩
              rw [List.take_length] at hox
              rw [List.drop_length] at hrx
              have S1 := Lib.hid (S.out.readOwn hrx hkx (by simp) hox)
              clear hox hrx hkx S
              go_wp2_with fail
              refine (same_yes xo ro' xc rcap raw _ (show OwnB v1 wr.heap.size xo xc raw from S1.out.head).at (Hra.out.below S1.out.b) (by omega)).mono ?_
              rintro e1 v2 ⟨rfl, hb2⟩
              have S2 := Lib.hid (S1.out.grow hb2).drop
              clear hb2 S1
              go_wp2_with fail
              refine (whole_any p g _ false _ S2.out.head (by decide)).mono ?_
              rintro e1 v3 ⟨rfl, rfl⟩
              go_wp2_with fail
              refine (known_any _).mono ?_
              rintro e1 v4 ⟨rfl, hb4⟩
              have Hb4 := Lib.hid (S2.out.grow hb4).b
              clear hb4
              go_wp2_with fail
              go_ret
              exact ⟨rfl, Hb4.out⟩

namespace OctetRowsLift
open Go.ChangeShapes Go.WideShapes Go.ChangeAt Go.RowKit Go.Joins Go.Deep
open Go.ChangeMaps (open_string shut_string)

theorem own : ownKnob Try.prog.godebug = none := by kernel_rfl
theorem laidOut : laidOutB Try.prog = true := by kernel_rfl

set_option maxHeartbeats 1000000 in
set_option maxRecDepth 100000 in
theorem lifted (os : Os) (started : os.Started) (H : Type) (enc : TypeId × Value → H) :
    ReturnsInHanded {} Try.checked os 7 .any (Rows.octetRowsSpec.pre6 enc Try.prog Try.f7 Rows.octetRowsRow.domain false) (Rows.octetRowsSpec.post enc Try.prog Try.f7 false true false false) := by
  refine returnsInHanded_of_change (C := Try.checked) own started (by kernel_rfl) Try.func7
    (ChangeSpec.witness6 (enc := enc) (C := Try.checked) false ⟨#[], #[.slice none 0 0, .slice none 0 0], []⟩ 8 (by kernel_rfl) (by kernel_rfl) (by kernel_rfl) (by kernel_rfl)) ?_
  intro W base args ds gs before hval0 hW hcnd _
  have hval : ∀ (j : Nat) t v, Try.f7.params[j]? = some t → args[j]? = some v → Value.okWide Try.prog W .any base t v := hval0
  have hW' := hW
  obtain ⟨p, q, hA0, hV, rfl, hfz, hnd⟩ := hW
  have hA : DataW.TrodAll enc Try.prog W 0 (fun _ => true) true Try.f7.params.toList args.toList ds p := hA0
  rw [Try.params7] at hA hval
  obtain ⟨v0, vs0, d0, ds0, p0, q0, hargs, rfl, rfl, h0, r0⟩ := trodAll_cons hA
  obtain ⟨v1, vs1, d1, ds1, p1, q1, rfl, rfl, rfl, h1, r1⟩ := trodAll_cons r0
  obtain ⟨rfl, rfl, rfl⟩ := trodAll_nil r1
  obtain rfl : args = #[v0, v1] := by cases args; simp_all
  obtain ⟨rfl, rfl⟩ := trodVars_none hV
  have k0 := h0
  have lt0 : ∀ x ∈ p0, x.block < W.heap.size := by obtain ⟨m, hm⟩ := k0; exact DataW.trod_lt m _ _ _ hm
  have k1 := h1
  have lt1 : ∀ x ∈ p1, x.block < W.heap.size := by obtain ⟨m, hm⟩ := k1; exact DataW.trod_lt m _ _ _ hm
  have post : ∀ e W', e = Ending.returned (.bool true) → Below W.heap.size W W' → ∃ v, e = .returned v ∧ Rows.octetRowsSpec.post enc Try.prog Try.f7 false true false false W #[v0, v1] v W' := by
    intro e W' he bel
    subst he
    exact ⟨_, rfl, _, _, _, [], _, [], hW', trodAll_mk1 (shut_bool Try.underlying4 _), (trodAll_cons_mk (Below.trod laidOut (by kernel_rfl) (of_decide_eq_true (by kernel_rfl)) k0 bel lt0) (trodAll_cons_mk (Below.trod laidOut (by kernel_rfl) (of_decide_eq_true (by kernel_rfl)) k1 bel lt1) trodAll_mk0)), rfl, bel.frame _, fun h => by cases h⟩
  clear hW' hcnd hfz hnd hA0 hA hval0
  obtain ⟨ao, L, cap, rfl, hLc, hcm, hn0, hr⟩ := open_rows (hval 0 38 v0 rfl rfl) h0
  obtain ⟨ro, raw, rcap, rfl, hrc, hrm, hrn, hra⟩ := open_bytes (hval 1 23 v1 rfl rfl) h1
  exact (rows_walk ao cap L ro rcap raw W (by omega) hr hrn hra (by unfold maxLen at hrm; omega)).mono fun e W' ⟨he, bel⟩ => post e W' he bel

theorem over : Rows.octetRowsRow.holds Try.pinned (OpenSpec.ofChange Rows.octetRowsSpec) :=
  OpenClaim.holds_of_wide 7 Try.f7 rfl rfl rfl rfl rfl rfl rfl ⟨rfl, rfl, rfl, rfl, rfl⟩ rfl rfl rfl rfl rfl (by kernel_rfl) Try.func7 (by kernel_rfl)
    (of_decide_eq_true (by kernel_rfl)) (by unfold Func.isWrapper; first | (rw [if_pos (by decide +kernel)]; kernel_rfl) | (rw [if_neg (by decide +kernel)]; exact ⟨rfl, rfl⟩))
    (fun os started H enc _ => lifted os started H enc)
end OctetRowsLift

/-- The statement. -/
theorem octetRows_holds : Rows.OctetRowsSaid := OctetRowsLift.over
#print axioms octetRows_holds
end Go.Proofs.Ytofkjogjnhnchaa
