/- OctetCuts: rows whose bytes are cut short: all that are whole come, the first that is not errs, and nothing comes behind it. -/
import Derived.Test.YtofkjogjnhnchaaObj
import Derived.Test.YtofkjogjnhnchaaRef
import Derived.Test.YtofkjogjnhnchaaCutPlain
import Derived.Test.YtofkjogjnhnchaaHeavy
import Derived.Test.YtofkjogjnhnchaaRows
namespace Go.Proofs.Ytofkjogjnhnchaa
open Go.RowKit Go.Joins

theorem intInfo : (Try.prog.info? 3).map (fun i => (i.zero, i.size, i.bytes)) = some (some (.int .i64 0), 1, 8) := by kernel_rfl
def endsV (L : List RowR) (k : Nat) : List Value := (List.range k).map fun i => .int .i64 (endOf L (i + 1))
theorem endsV_length (L : List RowR) (k : Nat) : (endsV L k).length = k := by simp [endsV]
theorem endsV_succ (L : List RowR) (k : Nat) : endsV L (k + 1) = endsV L k ++ [.int .i64 (endOf L (k + 1))] := by simp [endsV, List.range_succ]
theorem endsV_get (L : List RowR) (k i : Nat) (h : i < k) : (endsV L k)[i]? = some (.int .i64 (endOf L (i + 1))) := by simp [endsV, h]
theorem one_int (wr : World) (x : Int) (t : TypeId) : ∀ ad, some (⟨wr.heap.size, 0, none⟩ : Addr) = some ad → ∀ j u, [Value.int .i64 x][j]? = some u → (wr.alloc (.cells #[.int .i64 x] t)).cell? (ad.add j) = some u := by
  intro ad had j u hu
  obtain rfl : ad = ⟨wr.heap.size, 0, none⟩ := by simpa using had.symm
  have hj : j = 0 := by
    have := (List.getElem?_eq_some_iff.1 hu).1
    simpa using this
  subst hj
  simp at hu
  subst hu
  simp [Addr.add]
theorem bits_mask30 (x : Int) : ∃ m : Nat, bits .and .i64 x 1073741823 = m ∧ m ≤ 1073741823 := by
  refine ⟨(BitVec.ofInt 64 x &&& BitVec.ofInt 64 1073741823).toNat, ?_, ?_⟩
  · show IntKind.i64.wrap ((BitVec.ofInt 64 x &&& BitVec.ofInt 64 1073741823).toNat : Int) = _
    have h : (BitVec.ofInt 64 x &&& BitVec.ofInt 64 1073741823).toNat ≤ 1073741823 := by
      rw [BitVec.toNat_and]; exact Nat.and_le_right
    rw [IntKind.wrap_i64]; omega
  · rw [BitVec.toNat_and]; exact Nat.and_le_right
theorem endOf_pos (L : List RowR) (h : 0 < L.length) : 0 < (encRows L).length := by
  cases L with
  | nil => simp at h
  | cons r t =>
    rw [encRows_cons, List.length_append]
    have := (encN_length r.bs.length).2
    unfold encRow
    rw [List.length_append]
    omega
theorem flatR_le (L : List RowR) (k : Nat) : (flatR (L.take k)).length ≤ (flatR L).length := by
  have : flatR L = flatR (L.take k) ++ flatR (L.drop k) := by
    unfold flatR; rw [← List.flatMap_append, List.take_append_drop]
  rw [this, List.length_append]; omega
theorem endOf_le (L : List RowR) (k : Nat) : endOf L k ≤ 10 * L.length + (flatR L).length := by
  have h1 := encRows_length (L.take k)
  have h2 := flatR_le L k
  have h3 : (L.take k).length ≤ L.length := List.length_take_le' _ _
  unfold endOf
  omega

theorem newReader_at (n : Nat) (ao : Option Addr) (cap : Nat) (bs : List UInt8) (w : World) (hn : n = bs.length) (h0 : ao = none → n = 0 ∧ cap = 0) (ha : BAt w ao bs) (hm : n ≤ 140737488351232) :
    Calls Try.prog 16 #[.slice ao n cap] w fun e w' => ∃ p g, e = .returned (.pointer (some ⟨p, 0, none⟩)) ∧ RdAt w' p g bs false ∧ Below w.heap.size w w' ∧ w.heap.size ≤ p ∧ w.heap.size ≤ g := by
  subst hn; exact newReader_any ao cap bs w h0 ha hm
theorem numOf_rest (rest : List UInt8) (bad : Bool) (x r : List UInt8) (b : Bool) (h : tookOf rest bad = (x, r, b)) : r.length ≤ rest.length := by
  unfold tookOf at h
  cases hb : bytesOf rest with
  | none =>
    rw [hb] at h
    simp only [Prod.mk.injEq] at h
    rw [← h.2.1]; simp
  | some o =>
    obtain ⟨y, q⟩ := o
    rw [hb] at h
    simp only [Prod.mk.injEq] at h
    obtain ⟨rfl, rfl, rfl⟩ := h
    unfold bytesOf at hb
    cases hn : numOf rest with
    | none => rw [hn] at hb; simp at hb
    | some o =>
      obtain ⟨n, q2⟩ := o
      rw [hn] at hb
      simp only at hb
      split at hb
      · simp only [Option.some.injEq, Prod.mk.injEq] at hb
        have := (numOf_left hn).1
        rw [← hb.2, List.length_drop]
        omega
      · simp at hb
/-- A cell of an owned row of one-cell elements. -/
theorem row_cell {w : World} {base : Nat} {e : TypeId} {ao : Option Addr} {n cap : Nat} {xs : List Value} (h : w.ownsRow base e 1 (.slice ao n cap) n xs) (i : Nat) (hi : i < n) : ∃ g, ao = some ⟨g, 0, none⟩ ∧ w.cell? ⟨g, i, none⟩ = xs[i]? := by
  rcases h.2 with ⟨h1, h2⟩ | ⟨g, c, cur, hv, -⟩
  · omega
  · simp only [Value.slice.injEq] at hv
    obtain ⟨rfl, -, rfl⟩ := hv
    exact ⟨g, rfl, h.cellAt i (by omega)⟩

set_option maxRecDepth 8000 in
set_option maxHeartbeats 4000000 in
theorem cuts_walk (ao : Option Addr) (cap : Nat) (L : List RowR) (at_ : Int) (W : World) (hL : L.length ≤ 9223372036854775807) (hr : RsAt W (fun x => x < W.heap.size) ao L) :
    Calls Try.prog 8 #[.slice ao L.length cap, .int .i64 at_] W fun e w' => e = .returned (.bool true) ∧ Below W.heap.size W w' := by
  have Hr := Lib.hid hr
  clear hr
  obtain ⟨i0, hi, hz0, hz1, hz2⟩ := info_parts byteInfo
  obtain ⟨j0, hj, hy0, hy1, hy2⟩ := info_parts intInfo
  go_enter Try.func8, Try.ntmps8
  go_wp2_with fail
  refine (heavy_any ao cap L _ W Hr.out hL).mono ?_
  rintro e w0 ⟨he, rfl⟩
  rcases he with rfl | ⟨rfl, hbound⟩
  · go_wp2_with fail
    go_ret
    exact ⟨rfl, (by repeat (first | with_reducible exact Below.refl _ _ | with_reducible assumption | with_reducible refine Below.drew ?_ | with_reducible refine below_drawn ?_ | with_reducible refine Below.alloc ?_ (by first | omega | (simp; done) | (simp; omega) | (simp at *; omega)) _ | with_reducible refine Below.setCell ?_ (by first | omega | (simp; done) | (simp; omega) | (simp at *; omega)) _ | with_reducible refine Below.trans ?_ (Below.mono (by assumption) (by first | omega | (simp; done) | (simp; omega) | (simp at *; omega)))))⟩
  · by_cases hpos : (L.length : Int) = 0
    · go_wp2_with fail
      go_ret
      exact ⟨rfl, (by repeat (first | with_reducible exact Below.refl _ _ | with_reducible assumption | with_reducible refine Below.drew ?_ | with_reducible refine below_drawn ?_ | with_reducible refine Below.alloc ?_ (by first | omega | (simp; done) | (simp; omega) | (simp at *; omega)) _ | with_reducible refine Below.setCell ?_ (by first | omega | (simp; done) | (simp; omega) | (simp at *; omega)) _ | with_reducible refine Below.trans ?_ (Below.mono (by assumption) (by first | omega | (simp; done) | (simp; omega) | (simp at *; omega)))))⟩
    · have hne : ((L.length : Int) == 0) = false := by rw [beq_eq_false_iff_ne]; exact hpos
      go_wp2_with fail
      go_loopw [5, 6, 7] (fun s5 s6 s7 wr => ∃ (k : Nat) (wo eo : Option Addr) (wc ec : Nat), s7 = .int .i64 k ∧ s5 = .slice wo (encRows (L.take k)).length wc ∧ s6 = .slice eo k ec ∧ k ≤ L.length ∧ Hid (St w0 wr [thOwn w0.heap.size wo wc (encRows (L.take k)), thRow w0.heap.size 3 1 eo k ec (endsV L k)])) (fun _ _ s7 _ => L.length - (intOf s7).toNat)
      case atStart => exact ⟨0, none, none, 0, 0, rfl, rfl, rfl, by omega, (((St.start w0).nilRow _ _).nil)⟩
      case round =>
        obtain ⟨k, wo, eo, wc, ec, rfl, rfl, rfl, hk, S⟩ := hrel
        have hel := endOf_le L k
        have hbs := S.out.b.size
        by_cases hlt : (k : Int) < L.length
        · obtain ⟨b, off, rfl, hb, -, hrow⟩ := Hr.out (by omega)
          have hrw := hrow k (by omega)
          have hes := endOf_succ L k (by omega)
          have hel2 := endOf_le L (k + 1)
          have hst := List.take_succ_eq_append_getElem (l := L) (i := k) (by omega)
          obtain ⟨ro, rc, rb, hLk⟩ : ∃ ro rc rb, (⟨ro, rc, rb⟩ : RowR) = L[k]'(by omega) := ⟨_, _, _, rfl⟩
          rw [← hLk] at hrw hes hst
          have cW : w0.cell? ⟨b, off + k, none⟩ = some (.slice ro rb.length rc) := hrw.c
          have c0 := (S.out.b.cell (p := ⟨b, off + k, none⟩) hb).trans cW
          have hle : rb.length ≤ rc := hrw.le
          have hcm : rc ≤ 9223372036854775807 := hrw.cm
          have hn0 : ro = none → rb.length = 0 ∧ rc = 0 := hrw.n0
          have hat : BAt w0 ro rb := hrw.at_.at
          have hen : encRows (L.take (k + 1)) = encRows (L.take k) ++ encRow rb := by
            rw [hst]; simp only [encRows, List.flatMap_append, List.flatMap_cons, List.flatMap_nil, List.append_nil]
          have hxl : (encRow rb).length ≤ 41000 := by simp only at hes; omega
          have hrb : rb.length ≤ (encRow rb).length := by unfold encRow; rw [List.length_append]; omega
          have Hn0 := Lib.hid hn0
          have Hat := Lib.hid hat
          have Hen := Lib.hid hen
          have hel' : (encRows (L.take k)).length ≤ 41000 := by unfold endOf at hel; omega
          clear hn0 hat hen hrw hrow hLk hst hes hel2 hel
          go_wp2_with fail
          refine (refBytes_any ro rc rb _ Hn0.out (Hat.out.below S.out.b) (by omega)).mono ?_
          rintro e w5 ⟨xo, xc, rfl, ho5, hb5⟩
          have S5 := Lib.hid (S.out.grow hb5)
          have hs5 := S5.out.b.size
          have Ho5 := Lib.hid ho5
          have Hwant := Lib.hid (show OwnB w5 w0.heap.size wo wc (encRows (L.take k)) from S5.out.head)
          clear ho5 hb5 S c0
          go_wp2_with (at_builtin; go_must (refine wpList_append_foot _ rfl (.tmp 25) (.tmp 30) 23 rfl w0.heap.size 5 i0 (.int .u8 0) 1 1 Try.underlying23 hi hz0 hz1 hz2 rfl (by decide) wo (encRows (L.take k)).length wc (bytV (encRows (L.take k))) rfl Hwant.out xo (encRow rb).length xc (bytV (encRow rb)) rfl Ho5.out.none (by rw [bytV_length, Nat.mul_one]) Ho5.out.at.cells (bytV_one _) (by unfold maxLen; omega) (by omega) hs5 ?_))
          intro zo zc w6 hown6 hgrow6 hco6
          have hS6 := S5.out.appended hown6 hgrow6 hco6
          rw [← Hen.out] at hS6
          have S6 := Lib.hid (hS6.pull (A := [_]))
          have hlen : (encRows (L.take k)).length + (encRow rb).length = endOf L (k + 1) := by unfold endOf; rw [Hen.out, List.length_append]
          rw [hlen]
          have hs6 := S6.out.b.size
          have Hends := Lib.hid (show w6.ownsRow w0.heap.size 3 1 (.slice eo k ec) k (endsV L k) from S6.out.head)
          have hem := endOf_le L (k + 1)
          clear hown6 hgrow6 hco6 hS6 S5 Ho5 Hwant hlen
          go_wp2_with (at_builtin; go_must (refine wpList_append_foot _ rfl (.tmp 32) (.tmp 35) 30 rfl w0.heap.size 3 j0 (.int .i64 0) 1 8 Try.underlying30 hj hy0 hy1 hy2 rfl (by decide) eo k ec (endsV L k) rfl (Hends.out.alloc _) (some ⟨w6.heap.size, 0, none⟩) 1 1 [.int .i64 (endOf L (k + 1))] rfl (fun h => by cases h) rfl (one_int _ _ _) (by simp [Value.oneCell']) (by unfold maxLen; omega) (by omega) (by simp; omega) ?_))
          intro yo yc w7 hown7 hgrow7 hco7
          rw [← endsV_succ] at hown7
          have S7 := Lib.hid (((S6.out.grow (below_alloc w6 (.cells #[.int .i64 (endOf L (k + 1))] 3))).appendedRow (by rw [endsV_succ] at hown7; exact hown7) hgrow7 (by simpa using hco7)).pull (A := [_]))
          clear hown7 hgrow7 hco7 S6 Hends
          go_wp2_with fail
          go_roundw
          case rel => exact ⟨k + 1, zo, yo, zc, yc, by go_num, rfl, rfl, by omega, by have := S7; rw [← endsV_succ] at this; exact this⟩
          case measure => simp [intOf]; omega
        · have hkL : k = L.length := by omega
          subst hkL
          rw [List.take_length] at S ⊢
          have htot := endOf_le L L.length
          have hep := endOf_pos L (by omega)
          have hLe : endOf L L.length = (encRows L).length := by unfold endOf; rw [List.take_length]
          rw [hLe] at htot
          obtain ⟨m, hbm, hm30⟩ := bits_mask30 at_
          obtain ⟨f, hf⟩ : ∃ f, f = encRows L := ⟨_, rfl⟩
          rw [← hf] at S htot hep ⊢
          obtain ⟨c, hc⟩ : ∃ c : Nat, c = m % f.length := ⟨_, rfl⟩
          have hc1 : ((m : Int) % (f.length : Int)) = c := by rw [hc]; rfl
          have hc2 : ((m : Int).tmod (f.length : Int)) = c := by rw [Int.tmod_eq_emod_of_nonneg (by omega)]; exact hc1
          have hclt : c < f.length := hc ▸ Nat.mod_lt _ hep
          have hf0 : ¬ (f.length : Int) = 0 := by omega
          obtain ⟨g1, rfl, -, -⟩ := own_form (show OwnB wr w0.heap.size wo wc f from S.out.head) hep
          have hwle := (show OwnB wr w0.heap.size (some ⟨g1, 0, none⟩) wc f from S.out.head).le
          have hcw : c ≤ wc := by omega
          have hcw2 : (c : Int) ≤ wc := by omega
          have Hf := Lib.hid hf
          have Hc := Lib.hid hc
          clear hf hc
          go_wp2_with fail
          refine (newReader_at c (some ⟨g1, 0, none⟩) wc (f.take c) wr (by rw [List.length_take]; omega) (fun h => (nomatch h)) (own_short (show OwnB wr w0.heap.size (some ⟨g1, 0, none⟩) wc f from S.out.head) c (by omega)).at (by omega)).mono ?_
          rintro e w1 ⟨p, g, rfl, hr1, hb1, hp1, hg1⟩
          have T0 := Lib.hid (((S.out.newRd hr1 hb1 hp1 hg1).pull (A := [_])).drop)
          clear hr1 hb1 hp1 hg1 S hbm hm30 hc1 hc2 hwle hcw hcw2
          go_wp2_with fail
          go_loopw [10] (fun s10 wr => ∃ (k : Nat) (rest : List UInt8) (bad : Bool), s10 = .int .i64 k ∧ k ≤ L.length ∧ Hid ((rest, bad) = cutAt L c k) ∧ Hid (St w0 wr [thRd p g rest bad, thRow w0.heap.size 3 1 eo L.length ec (endsV L L.length)])) (fun s10 _ => L.length - (intOf s10).toNat)
          case atStart => exact ⟨0, f.take c, false, rfl, by omega, by unfold Hid cutAt; rw [show endOf L 0 = 0 from rfl, if_pos (Nat.zero_le _), List.drop_zero, Hf.out], T0⟩
          case round =>
            clear T0 hlt
            obtain ⟨k, rest, bad, rfl, hk, hcu, S⟩ := hrel
            have hrl : rest.length ≤ 100000 := by
              have h1 := cutAt_le L c k
              rw [← hcu.out] at h1
              have h2 := Hf.out
              rw [← h2] at h1
              simp only at h1
              omega
            by_cases hlt : (k : Int) < L.length
            · obtain ⟨b, off, rfl, hb, -, hrow⟩ := Hr.out (by omega)
              have hrw := hrow k (by omega)
              have hyes := cut_yes L c k (by omega)
              have hno := cut_no L c k (by omega)
              obtain ⟨ro, rc, rb, hLk⟩ : ∃ ro rc rb, (⟨ro, rc, rb⟩ : RowR) = L[k]'(by omega) := ⟨_, _, _, rfl⟩
              have hrb : rb.length ≤ 4000 := by
                have h1 := flatR_take L k (by omega)
                have h2 := flatR_le L (k + 1)
                rw [← hLk] at h1
                simp only at h1
                omega
              rw [← hLk] at hrw hyes hno
              rw [← hcu.out] at hyes hno
              have hyes := hyes (by simp only; omega)
              have hno := hno (by simp only; omega)
              simp only at hyes hno
              have cW : w0.cell? ⟨b, off + k, none⟩ = some (.slice ro rb.length rc) := hrw.c
              have hat : BAt w0 ro rb := hrw.at_.at
              have Hyes := Lib.hid hyes
              have Hno := Lib.hid hno
              have Hat := Lib.hid hat
              clear hyes hno hat hrw hrow hLk hcu
              go_wp2_with fail
              refine (rdbytes_any p g rest bad wr S.out.head (by omega)).mono ?_
              rintro e1 v1 ⟨x, r', b', xo, xc, hx, rfl, hox, hrx, hkx⟩
              by_cases hend : endOf L (k + 1) ≤ c
              · obtain ⟨hbad, htk, hnb⟩ := Hyes.out hend
                rw [htk] at hx
                simp only [Prod.mk.injEq] at hx
                obtain ⟨rfl, rfl, rfl⟩ := hx
                have hlen' : (cutAt L c (k + 1)).1.length ≤ rest.length := by
                  have := numOf_rest rest bad _ _ _ htk
                  exact this
                have S1 := Lib.hid (S.out.readOwn hrx hkx hlen' hox)
                have S2 := Lib.hid (S1.out.pull (A := [_, _]))
                obtain ⟨ge, rfl, hec⟩ := row_cell (show v1.ownsRow w0.heap.size 3 1 (.slice eo L.length ec) L.length (endsV L L.length) from S2.out.head) k (by omega)
                rw [endsV_get L L.length k (by omega)] at hec
                have hend' : (endOf L (k + 1) : Int) ≤ c := by omega
                have c1 := (S1.out.b.cell (p := ⟨b, off + k, none⟩) hb).trans cW
                have Hnb := Lib.hid hnb
                clear hox hrx hkx S S2 hbad htk hnb Hyes Hno
                go_wp2_with fail
                refine (same_yes xo ro xc rc x _ (show OwnB v1 wr.heap.size xo xc x from S1.out.head).at (Hat.out.below S1.out.b) (by omega)).mono ?_
                rintro e1 v2 ⟨rfl, hb2⟩
                have S3 := Lib.hid (S1.out.grow hb2).drop
                clear hb2 S1
                go_wp2_with fail
                refine (good_any p g _ false _ S3.out.head).mono ?_
                rintro e1 v3 ⟨rfl, rfl⟩
                go_wp2_with fail
                go_roundw
                case rel => exact ⟨k + 1, (cutAt L c (k + 1)).1, false, by go_num, by omega, Prod.ext rfl Hnb.out.symm, S3⟩
                case measure => simp [intOf]; omega
              · obtain ⟨htk, hcn⟩ := Hno.out hend
                rw [htk] at hx
                simp only [Prod.mk.injEq] at hx
                obtain ⟨rfl, rfl, rfl⟩ := hx
                have S1 := Lib.hid (S.out.readOwn hrx hkx (Nat.zero_le _) hox)
                have S2 := Lib.hid (S1.out.pull (A := [_, _]))
                obtain ⟨ge, rfl, hec⟩ := row_cell (show v1.ownsRow w0.heap.size 3 1 (.slice eo L.length ec) L.length (endsV L L.length) from S2.out.head) k (by omega)
                rw [endsV_get L L.length k (by omega)] at hec
                have hend' : ¬ (endOf L (k + 1) : Int) ≤ c := by omega
                have S3 := Lib.hid S1.out.drop
                have Hcn := Lib.hid hcn
                clear hox hrx hkx S S1 S2 htk hcn Hyes Hno
                go_wp2_with fail
                refine (good_any p g _ true _ S3.out.head).mono ?_
                rintro e1 v3 ⟨rfl, rfl⟩
                go_wp2_with fail
                refine (left_any p g _ true _ S3.out.head).mono ?_
                rintro e1 v3 ⟨rfl, rfl⟩
                go_wp2_with fail
                go_roundw
                case rel => exact ⟨k + 1, [], true, by go_num, by omega, Hcn.out.symm, S3⟩
                case measure => simp [intOf]; omega
            · have hkL : k = L.length := by omega
              have hend : cutAt L c k = ([], true) := by
                unfold cutAt
                rw [if_neg]
                rw [hkL, hLe, ← Hf.out]
                omega
              have hcu' := hcu.out
              rw [hend] at hcu'
              simp only [Prod.mk.injEq] at hcu'
              obtain ⟨rfl, rfl⟩ := hcu'
              clear hend hcu
              go_wp2_with fail
              refine (whole_any p g _ true _ S.out.head (by decide)).mono ?_
              rintro e1 v3 ⟨rfl, rfl⟩
              go_wp2_with fail
              refine (rdnum_any p g _ true _ S.out.head (by decide)).mono ?_
              rintro e1 v4 ⟨-, hy, hky⟩
              obtain ⟨rfl, hr4⟩ := hy rfl
              have S4 := Lib.hid (S.out.read hr4 hky (Nat.le_refl _))
              clear hr4 hky hy S
              go_wp2_with fail
              refine (known_any _).mono ?_
              rintro e1 v5 ⟨rfl, hb5⟩
              have Hb5 := Lib.hid (S4.out.grow hb5).b
              clear hb5
              go_wp2_with fail
              go_ret
              exact ⟨rfl, Hb5.out⟩

namespace OctetCutsLift
open Go.ChangeShapes Go.WideShapes Go.ChangeAt Go.RowKit Go.Joins Go.Deep
open Go.ChangeMaps (open_string shut_string)

theorem own : ownKnob Try.prog.godebug = none := by kernel_rfl
theorem laidOut : laidOutB Try.prog = true := by kernel_rfl

set_option maxHeartbeats 1000000 in
set_option maxRecDepth 100000 in
theorem lifted (os : Os) (started : os.Started) (H : Type) (enc : TypeId × Value → H) :
    ReturnsInHanded {} Try.checked os 8 .any (Rows.octetCutsSpec.pre6 enc Try.prog Try.f8 Rows.octetCutsRow.domain false) (Rows.octetCutsSpec.post enc Try.prog Try.f8 false true false false) := by
  refine returnsInHanded_of_change (C := Try.checked) own started (by kernel_rfl) Try.func8
    (ChangeSpec.witness6 (enc := enc) (C := Try.checked) false ⟨#[], #[.slice none 0 0, .int .i64 0], []⟩ 8 (by kernel_rfl) (by kernel_rfl) (by kernel_rfl) (by kernel_rfl)) ?_
  intro W base args ds gs before hval0 hW hcnd _
  have hval : ∀ (j : Nat) t v, Try.f8.params[j]? = some t → args[j]? = some v → Value.okWide Try.prog W .any base t v := hval0
  have hW' := hW
  obtain ⟨p, q, hA0, hV, rfl, hfz, hnd⟩ := hW
  have hA : DataW.TrodAll enc Try.prog W 0 (fun _ => true) true Try.f8.params.toList args.toList ds p := hA0
  rw [Try.params8] at hA hval
  obtain ⟨v0, vs0, d0, ds0, p0, q0, hargs, rfl, rfl, h0, r0⟩ := trodAll_cons hA
  obtain ⟨v1, vs1, d1, ds1, p1, q1, rfl, rfl, rfl, h1, r1⟩ := trodAll_cons r0
  obtain ⟨rfl, rfl, rfl⟩ := trodAll_nil r1
  obtain rfl : args = #[v0, v1] := by cases args; simp_all
  obtain ⟨rfl, rfl⟩ := trodVars_none hV
  have k0 := h0
  have lt0 : ∀ x ∈ p0, x.block < W.heap.size := by obtain ⟨m, hm⟩ := k0; exact DataW.trod_lt m _ _ _ hm
  have k1 := h1
  have lt1 : ∀ x ∈ p1, x.block < W.heap.size := by obtain ⟨m, hm⟩ := k1; exact DataW.trod_lt m _ _ _ hm
  have post : ∀ e W', e = Ending.returned (.bool true) → Below W.heap.size W W' → ∃ v, e = .returned v ∧ Rows.octetCutsSpec.post enc Try.prog Try.f8 false true false false W #[v0, v1] v W' := by
    intro e W' he bel
    subst he
    exact ⟨_, rfl, _, _, _, [], _, [], hW', trodAll_mk1 (shut_bool Try.underlying4 _), (trodAll_cons_mk (Below.trod laidOut (by kernel_rfl) (of_decide_eq_true (by kernel_rfl)) k0 bel lt0) (trodAll_cons_mk (Below.trod laidOut (by kernel_rfl) (of_decide_eq_true (by kernel_rfl)) k1 bel lt1) trodAll_mk0)), rfl, bel.frame _, fun h => by cases h⟩
  clear hW' hcnd hfz hnd hA0 hA hval0
  obtain ⟨ao, L, cap, rfl, hLc, hcm, hn0, hr⟩ := open_rows (hval 0 38 v0 rfl rfl) h0
  obtain ⟨at_, rfl⟩ := okWide_int Try.underlying3 (hval 1 3 v1 rfl rfl)
  exact (cuts_walk ao cap L at_ W (by omega) hr).mono fun e W' ⟨he, bel⟩ => post e W' he bel

theorem over : Rows.octetCutsRow.holds Try.pinned (OpenSpec.ofChange Rows.octetCutsSpec) :=
  OpenClaim.holds_of_wide 8 Try.f8 rfl rfl rfl rfl rfl rfl rfl ⟨rfl, rfl, rfl, rfl, rfl⟩ rfl rfl rfl rfl rfl (by kernel_rfl) Try.func8 (by kernel_rfl)
    (of_decide_eq_true (by kernel_rfl)) (by unfold Func.isWrapper; first | (rw [if_pos (by decide +kernel)]; kernel_rfl) | (rw [if_neg (by decide +kernel)]; exact ⟨rfl, rfl⟩))
    (fun os started H enc _ => lifted os started H enc)
end OctetCutsLift

/-- The statement. -/
theorem octetCuts_holds : Rows.OctetCutsSaid := OctetCutsLift.over
#print axioms octetCuts_holds
end Go.Proofs.Ytofkjogjnhnchaa
