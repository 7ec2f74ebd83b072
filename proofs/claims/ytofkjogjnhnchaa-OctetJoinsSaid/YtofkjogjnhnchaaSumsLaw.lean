/- OctetSums: the check sum of rows is that of all of them in one; a byte that is another one has another sum. -/
import Derived.Test.YtofkjogjnhnchaaObj
import Derived.Test.YtofkjogjnhnchaaJoinAny
import Derived.Test.YtofkjogjnhnchaaSumPlain
import Derived.Test.YtofkjogjnhnchaaHeavy
import Derived.Test.YtofkjogjnhnchaaRows
namespace Go.Proofs.Ytofkjogjnhnchaa
open Go.RowKit Go.Joins

/-- Bytes that the library made for the call. -/
def thC (base : Nat) (ao : Option Addr) (cap : Nat) (l : List UInt8) : Th where
  T w := OwnC w base ao cap l
  F x := (∃ a, ao = some a ∧ a.block = x) ∧ 0 < cap
  stay {w w' S} h k hS := by
    rcases h with h | ⟨g, zs, rfl, h1, h2, h3, h4, h5, h6, h7⟩
    · exact .inl h
    · refine .inr ⟨g, zs, rfl, h1, h2, h3, h4, h5, fun i hi => ?_, fun i hi => ?_⟩
      · have hc := h6 i hi
        have hn : ¬ S g := hS g ⟨⟨_, rfl, rfl⟩, by omega⟩
        have hg : g < w.heap.size := by
          rcases Nat.lt_or_ge g w.heap.size with h | h
          · exact h
          · simp [World.cell?, Array.getElem?_eq_none h] at hc
        exact (k.cell (p := ⟨g, i, none⟩) hg hn).trans hc
      · have hc := h6 i (by omega)
        have hn : ¬ S g := hS g ⟨⟨_, rfl, rfl⟩, by omega⟩
        have hg : g < w.heap.size := by
          rcases Nat.lt_or_ge g w.heap.size with h | h
          · exact h
          · simp [World.cell?, Array.getElem?_eq_none h] at hc
        exact (k.frozen (p := ⟨g, i, none⟩) hg hn).trans (h7 i hi)
  lt {w x} h hx := by
    obtain ⟨⟨a, rfl, rfl⟩, hp⟩ := hx
    rcases h with ⟨h, -⟩ | ⟨g, zs, hg, -, -, -, h4, -, h6, -⟩
    · cases h
    · simp only [Option.some.injEq] at hg
      subst hg
      have hc := h6 0 (by omega)
      rcases Nat.lt_or_ge g w.heap.size with h | h
      · exact h
      · simp [World.cell?, Array.getElem?_eq_none h] at hc
theorem St.ownC {W w w' : World} {L : List Th} {ao : Option Addr} {cap : Nat} {l : List UInt8} (h : St W w L) (b : Below w.heap.size w w') (ho : OwnC w' w.heap.size ao cap l) : St W w' (thC w.heap.size ao cap l :: L) :=
  h.new b _ ho (fun x hx => by
    obtain ⟨⟨a, rfl, rfl⟩, -⟩ := hx
    rcases ho with ⟨h, -⟩ | ⟨g, zs, hg, h1, -⟩
    · cases h
    · simp only [Option.some.injEq] at hg
      subst hg
      exact h1)
theorem flatR_succ (L : List RowR) (k : Nat) (h : k < L.length) : flatR (L.take (k + 1)) = flatR (L.take k) ++ L[k].bs := by
  rw [List.take_succ_eq_append_getElem h]
  simp only [flatR, List.flatMap_append, List.flatMap_cons, List.flatMap_nil, List.append_nil]
theorem flatR_le (L : List RowR) (k : Nat) : (flatR (L.take k)).length ≤ (flatR L).length := by
  have : flatR L = flatR (L.take k) ++ flatR (L.drop k) := by
    unfold flatR; rw [← List.flatMap_append, List.take_append_drop]
  rw [this, List.length_append]; omega
theorem intMask30 (x : Int) : ∃ m : Nat, bits .and .i64 x 1073741823 = m ∧ m ≤ 1073741823 := by
  refine ⟨(BitVec.ofInt 64 x &&& BitVec.ofInt 64 1073741823).toNat, ?_, ?_⟩
  · show IntKind.i64.wrap ((BitVec.ofInt 64 x &&& BitVec.ofInt 64 1073741823).toNat : Int) = _
    have h : (BitVec.ofInt 64 x &&& BitVec.ofInt 64 1073741823).toNat ≤ 1073741823 := by
      rw [BitVec.toNat_and]; exact Nat.and_le_right
    rw [IntKind.wrap_i64]; omega
  · rw [BitVec.toNat_and]; exact Nat.and_le_right
/-- One row of the call's own, as rows. -/
theorem rs_one {w : World} {ao : Option Addr} {cap : Nat} {l : List UInt8} (h0 : ao = none → l.length = 0 ∧ cap = 0) (h1 : l.length ≤ cap) (h2 : cap ≤ 9223372036854775807) (h : BAt w ao l) : RsAt (w.alloc (.cells #[.slice ao l.length cap] 23)) (fun _ => True) (some ⟨w.heap.size, 0, none⟩) [⟨ao, cap, l⟩] := fun _ =>
  ⟨w.heap.size, 0, rfl, by simp, trivial, fun i hi => by
    match i, hi with
    | 0, _ => exact ⟨by rw [cell_alloc_mark_at _ _ _ _ _ _ rfl]; rfl, h1, h2, h0, fun hp => by
        obtain ⟨b, off, e, hb, hr⟩ := (h.below (below_alloc w _)) hp
        exact ⟨b, off, e, hb, trivial, hr⟩⟩⟩

theorem rs_at {w : World} {ao : Option Addr} {cap : Nat} {l : List UInt8} (n k : Nat) (hn : n = w.heap.size) (hk : k = l.length) (h0 : ao = none → l.length = 0 ∧ cap = 0) (h1 : l.length ≤ cap) (h2 : cap ≤ 9223372036854775807) (h : BAt w ao l) : RsAt (w.alloc (.cells #[.slice ao k cap] 23)) (fun _ => True) (some ⟨n, 0, none⟩) [⟨ao, cap, l⟩] := by
  subst hn hk
  exact rs_one h0 h1 h2 h
set_option maxRecDepth 8000 in
set_option maxHeartbeats 4000000 in
theorem sums_walk (ao : Option Addr) (cap : Nat) (L : List RowR) (at_ : Int) (by_ : UInt8) (W : World) (hLc : L.length ≤ cap) (hcm : cap ≤ 9223372036854775807) (hr : RsAt W (fun x => x < W.heap.size) ao L) :
    Calls Try.prog 5 #[.slice ao L.length cap, .int .i64 at_, .int .u8 by_.toNat] W fun e w' => e = .returned (.bool true) ∧ Below W.heap.size W w' := by
  have Hr := Lib.hid hr
  clear hr
  obtain ⟨i0, hi, hz0, hz1, hz2⟩ := info_parts byteInfo
  go_enter Try.func5, Try.ntmps5
  go_wp2_with fail
  refine (heavy_any ao cap L _ W Hr.out (by omega)).mono ?_
  rintro e w0 ⟨he, rfl⟩
  rcases he with rfl | ⟨rfl, hbound⟩
  · go_wp2_with fail
    go_ret
    exact ⟨rfl, (by repeat (first | with_reducible exact Below.refl _ _ | with_reducible assumption | with_reducible refine Below.drew ?_ | with_reducible refine below_drawn ?_ | with_reducible refine Below.alloc ?_ (by first | omega | (simp; done) | (simp; omega) | (simp at *; omega)) _ | with_reducible refine Below.setCell ?_ (by first | omega | (simp; done) | (simp; omega) | (simp at *; omega)) _ | with_reducible refine Below.trans ?_ (Below.mono (by assumption) (by first | omega | (simp; done) | (simp; omega) | (simp at *; omega)))))⟩
  · go_wp2_with fail
    refine (join_any ao cap L _ w0 Hr.out hLc (by omega) (by omega)).mono ?_
    rintro e w1 ⟨jo, jc, rfl, ho1, hb1⟩
    have S0 := Lib.hid (((St.start w0).ownC hb1 ho1).nil)
    clear ho1 hb1
    go_wp2_with fail
    go_loopw [8, 9] (fun s8 s9 wr => ∃ (k : Nat) (wo : Option Addr) (wc : Nat), s9 = .int .i64 k ∧ s8 = .slice wo (flatR (L.take k)).length wc ∧ k ≤ L.length ∧ Hid (St w0 wr [thOwn w0.heap.size wo wc (flatR (L.take k)), thC w0.heap.size jo jc (flatR L)])) (fun _ s9 _ => L.length - (intOf s9).toNat)
    case atStart => exact ⟨0, none, 0, rfl, rfl, by omega, S0⟩
    case round =>
      clear S0
      obtain ⟨k, wo, wc, rfl, rfl, hk, S⟩ := hrel
      have hbs := S.out.b.size
      have hfl := flatR_le L k
      by_cases hlt : (k : Int) < L.length
      · obtain ⟨b, off, rfl, hb, -, hrow⟩ := Hr.out (by omega)
        have hrw := hrow k (by omega)
        have hfs := flatR_succ L k (by omega)
        have hfl2 := flatR_le L (k + 1)
        obtain ⟨ro, rc, rb, hLk⟩ : ∃ ro rc rb, (⟨ro, rc, rb⟩ : RowR) = L[k]'(by omega) := ⟨_, _, _, rfl⟩
        rw [← hLk] at hrw hfs
        simp only at hfs
        have cW : w0.cell? ⟨b, off + k, none⟩ = some (.slice ro rb.length rc) := hrw.c
        have c0 := (S.out.b.cell (p := ⟨b, off + k, none⟩) hb).trans cW
        have hle : rb.length ≤ rc := hrw.le
        have hrcm : rc ≤ 9223372036854775807 := hrw.cm
        have hn0 : ro = none → rb.length = 0 ∧ rc = 0 := hrw.n0
        have hat : BAt w0 ro rb := hrw.at_.at
        have hlen := congrArg List.length hfs
        rw [List.length_append] at hlen
        have Hn0 := Lib.hid hn0
        have Hat := Lib.hid hat
        have Hfs := Lib.hid hfs
        have Hlen := Lib.hid hlen
        have hsm : (flatR (L.take k)).length + rb.length ≤ 4000 := by omega
        have Hwant := Lib.hid (show OwnB wr w0.heap.size wo wc (flatR (L.take k)) from S.out.head)
        clear hn0 hat hfs hrw hrow hLk hlen hfl2
        go_wp2_with (at_builtin; go_must (refine wpList_append_foot _ rfl (.tmp 21) (.tmp 25) 23 rfl w0.heap.size 5 i0 (.int .u8 0) 1 1 Try.underlying23 hi hz0 hz1 hz2 rfl (by decide) wo (flatR (L.take k)).length wc (bytV (flatR (L.take k))) rfl Hwant.out ro rb.length rc (bytV rb) rfl Hn0.out (by rw [bytV_length, Nat.mul_one]) (Hat.out.below S.out.b).cells (bytV_one _) (by unfold maxLen; omega) (by omega) hbs ?_))
        intro zo zc w6 hown6 hgrow6 hco6
        have hS6 := S.out.appended hown6 hgrow6 hco6
        rw [← Hfs.out] at hS6
        have S6 := Lib.hid hS6
        rw [← Hlen.out]
        clear hown6 hgrow6 hco6 hS6 S Hwant
        go_wp2_with fail
        go_roundw
        case rel => exact ⟨k + 1, zo, zc, by go_num, rfl, by omega, S6⟩
        case measure => simp [intOf]; omega
      · have hkL : L.take k = L := List.take_of_length_le (by omega)
        rw [hkL] at S hfl ⊢
        clear hkL
        obtain ⟨f, hf⟩ : ∃ f, f = flatR L := ⟨_, rfl⟩
        have hfm : f.length ≤ 4000 := by rw [hf]; omega
        have Hf := Lib.hid hf
        rw [← hf] at S ⊢
        clear hf hfl
        go_wp2_with fail
        refine (sum_any ao cap L _ _ (Hr.out.below S.out.b) (by omega)).mono ?_
        rintro e w2 ⟨rfl, rfl⟩
        rw [← Hf.out]
        obtain ⟨sv, hsv⟩ : ∃ sv, sv = sumOf f := ⟨_, rfl⟩
        rw [← hsv]
        have Hsv := Lib.hid hsv
        clear hsv
        have Sj := Lib.hid (S.out.pull (A := [_]))
        have Hw := Lib.hid (show OwnB w2 w0.heap.size wo wc f from S.out.head)
        have hwle := Hw.out.le
        go_wp2_with fail
        refine (same_yes jo wo jc wc f _ (show OwnC w2 w0.heap.size jo jc f from Sj.out.head).at Hw.out.at (by omega)).mono ?_
        rintro e w3 ⟨rfl, hb3⟩
        have S3 := Lib.hid (S.out.grow hb3)
        have Hw3 := Lib.hid (show OwnB w3 w0.heap.size wo wc f from S3.out.head)
        clear hb3 S Sj Hw
        go_wp2_with fail
        refine (refSum_any wo wc f _ Hw3.out.at (by omega)).mono ?_
        rintro e w4 ⟨rfl, rfl⟩
        rw [← Hsv.out]
        go_wp2_with fail
        refine (sum_any _ 1 [⟨wo, wc, f⟩] _ _ (rs_one Hw3.out.none hwle.1 hwle.2 Hw3.out.at) (by simp)).mono ?_
        rintro e w5 ⟨rfl, rfl⟩
        rw [show flatR [⟨wo, wc, f⟩] = f from by simp [flatR], ← Hsv.out]
        have S5 := Lib.hid (S3.out.grow (below_alloc w4 (.cells #[.slice wo f.length wc] 23)))
        have Hw5 := Lib.hid (show OwnB _ w0.heap.size wo wc f from S5.out.head)
        clear S3 Hw3
        by_cases hpos : (0 : Int) < f.length
        · by_cases hby : by_ = 0
          · subst hby
            have hb0 : ((0 : UInt8).toNat : Int) = 0 := rfl
            go_wp2_with fail
            refine (known_any _).mono ?_
            rintro e w6 ⟨rfl, hb6⟩
            have Hb6 := Lib.hid (S5.out.grow hb6).b
            clear hb6
            go_wp2_with fail
            go_ret
            exact ⟨rfl, Hb6.out⟩
          · have hbn : ¬ (by_.toNat : Int) = 0 := fun h => hby (UInt8.toNat_inj.1 (by rw [UInt8.toNat_zero]; omega))
            obtain ⟨m, hbm, hm30⟩ := intMask30 at_
            obtain ⟨c, hc⟩ : ∃ c : Nat, c = m % f.length := ⟨_, rfl⟩
            have hc1 : ((m : Int) % (f.length : Int)) = c := by rw [hc]; rfl
            have hc2 : ((m : Int).tmod (f.length : Int)) = c := by rw [Int.tmod_eq_emod_of_nonneg (by omega)]; exact hc1
            have hclt : c < f.length := hc ▸ Nat.mod_lt _ (by omega)
            have hclt2 : (c : Int) < f.length := by omega
            have hf0 : ¬ (f.length : Int) = 0 := by omega
            obtain ⟨g1, rfl, -, -⟩ := own_form Hw5.out (by omega)
            have hcell := World.ownsRow.cellAt Hw5.out c (by omega)
            rw [bytV_get f c hclt] at hcell
            have hfrz := World.ownsRow.frozenAt Hw5.out c
            obtain ⟨d, hd⟩ : ∃ d, d = f[c]'hclt := ⟨_, rfl⟩
            rw [← hd] at hcell
            have hxb := xor_byte d by_
            have hdiff := sum_differs f c hclt (d ^^^ by_) (by rw [← hd]; exact xor_other d by_ hby)
            obtain ⟨x, hx⟩ : ∃ x, x = d ^^^ by_ := ⟨_, rfl⟩
            rw [← hx] at hxb hdiff
            have S6 := Lib.hid (S5.out.step (t' := thOwn w0.heap.size (some ⟨g1, 0, none⟩) wc (f.set c x)) ((Keeps.set _ ⟨g1, c, none⟩ (.int .u8 (x.toNat : Int))).weak (fun _ _ h => ⟨_, rfl, h.symm⟩)) (own_stored Hw5.out c x) (fun y hy => .inl hy))
            have Hdiff := Lib.hid hdiff
            have hne : ¬ (sumOf (f.set c x) : Int) = (sv : Int) := fun h => Hdiff.out (by rw [← Hsv.out]; omega)
            clear hc hd hx hdiff S5 Hw5 hby
            go_wp2_with fail
            have hw6 : OwnB _ w0.heap.size (some ⟨g1, 0, none⟩) wc (f.set c x) := S6.out.head
            have hrs := rs_at (w4.heap.size + 1) f.length (by simp) (by simp) hw6.none hw6.le.1 hw6.le.2 hw6.at
            have S7 := Lib.hid (S6.out.grow (below_alloc _ (.cells #[.slice (some ⟨g1, 0, none⟩) f.length wc] 23)))
            refine (sum_any _ 1 [⟨some ⟨g1, 0, none⟩, wc, f.set c x⟩] _ _ hrs (by simp)).mono ?_
            rintro e w7 ⟨rfl, rfl⟩
            rw [show flatR [⟨some ⟨g1, 0, none⟩, wc, f.set c x⟩] = f.set c x from by simp [flatR]]
            clear hw6 hrs S6
            go_wp2_with fail
            refine (known_any _).mono ?_
            rintro e w8 ⟨rfl, hb8⟩
            have Hb8 := Lib.hid (S7.out.grow hb8).b
            clear hb8
            go_wp2_with fail
            go_ret
            exact ⟨rfl, Hb8.out⟩
        · go_wp2_with fail
          refine (known_any _).mono ?_
          rintro e w6 ⟨rfl, hb6⟩
          have Hb6 := Lib.hid (S5.out.grow hb6).b
          clear hb6
          go_wp2_with fail
          go_ret
          exact ⟨rfl, Hb6.out⟩

open Go.WideShapes Go.ChangeShapes in
theorem open_byte {H : Type} {enc : TypeId × Value → H} {W : World} {v : Value} {d : DataW H} {p : List MemPlace} {b : Nat} (hv : Value.okWide Try.prog W .any b 5 v) (h : DataW.Trod enc Try.prog W 0 (fun _ => true) true 5 v d p) : ∃ c : UInt8, v = .int .u8 c.toNat := by
  obtain ⟨m, rfl⟩ := okWide_int Try.underlying5 hv
  obtain ⟨fuel, hf⟩ := h
  obtain ⟨n, e, -, hw⟩ := DataW.trod_int Try.underlying5 hf
  have hmn : m = n := by simpa [Value.cells] using e
  subst hmn
  have := wf_u8 hw
  refine ⟨UInt8.ofNat m.toNat, ?_⟩
  congr 1
  simp only [UInt8.toNat_ofNat']
  omega

namespace OctetSumsLift
open Go.ChangeShapes Go.WideShapes Go.ChangeAt Go.RowKit Go.Joins Go.Deep
open Go.ChangeMaps (open_string shut_string)

theorem own : ownKnob Try.prog.godebug = none := by kernel_rfl
theorem laidOut : laidOutB Try.prog = true := by kernel_rfl

set_option maxHeartbeats 1000000 in
set_option maxRecDepth 100000 in
theorem lifted (os : Os) (started : os.Started) (H : Type) (enc : TypeId × Value → H) :
    ReturnsInHanded {} Try.checked os 5 .any (Rows.octetSumsSpec.pre6 enc Try.prog Try.f5 Rows.octetSumsRow.domain false) (Rows.octetSumsSpec.post enc Try.prog Try.f5 false true false false) := by
  refine returnsInHanded_of_change (C := Try.checked) own started (by kernel_rfl) Try.func5
    (ChangeSpec.witness6 (enc := enc) (C := Try.checked) false ⟨#[], #[.slice none 0 0, .int .i64 0, .int .u8 0], []⟩ 8 (by kernel_rfl) (by kernel_rfl) (by kernel_rfl) (by kernel_rfl)) ?_
  intro W base args ds gs before hval0 hW hcnd _
  have hval : ∀ (j : Nat) t v, Try.f5.params[j]? = some t → args[j]? = some v → Value.okWide Try.prog W .any base t v := hval0
  have hW' := hW
  obtain ⟨p, q, hA0, hV, rfl, hfz, hnd⟩ := hW
  have hA : DataW.TrodAll enc Try.prog W 0 (fun _ => true) true Try.f5.params.toList args.toList ds p := hA0
  rw [Try.params5] at hA hval
  obtain ⟨v0, vs0, d0, ds0, p0, q0, hargs, rfl, rfl, h0, r0⟩ := trodAll_cons hA
  obtain ⟨v1, vs1, d1, ds1, p1, q1, rfl, rfl, rfl, h1, r1⟩ := trodAll_cons r0
  obtain ⟨v2, vs2, d2, ds2, p2, q2, rfl, rfl, rfl, h2, r2⟩ := trodAll_cons r1
  obtain ⟨rfl, rfl, rfl⟩ := trodAll_nil r2
  obtain rfl : args = #[v0, v1, v2] := by cases args; simp_all
  obtain ⟨rfl, rfl⟩ := trodVars_none hV
  have k0 := h0
  have lt0 : ∀ x ∈ p0, x.block < W.heap.size := by obtain ⟨m, hm⟩ := k0; exact DataW.trod_lt m _ _ _ hm
  have k1 := h1
  have lt1 : ∀ x ∈ p1, x.block < W.heap.size := by obtain ⟨m, hm⟩ := k1; exact DataW.trod_lt m _ _ _ hm
  have k2 := h2
  have lt2 : ∀ x ∈ p2, x.block < W.heap.size := by obtain ⟨m, hm⟩ := k2; exact DataW.trod_lt m _ _ _ hm
  have post : ∀ e W', e = Ending.returned (.bool true) → Below W.heap.size W W' → ∃ v, e = .returned v ∧ Rows.octetSumsSpec.post enc Try.prog Try.f5 false true false false W #[v0, v1, v2] v W' := by
    intro e W' he bel
    subst he
    exact ⟨_, rfl, _, _, _, [], _, [], hW', trodAll_mk1 (shut_bool Try.underlying4 _), (trodAll_cons_mk (Below.trod laidOut (by kernel_rfl) (of_decide_eq_true (by kernel_rfl)) k0 bel lt0) (trodAll_cons_mk (Below.trod laidOut (by kernel_rfl) (of_decide_eq_true (by kernel_rfl)) k1 bel lt1) (trodAll_cons_mk (Below.trod laidOut (by kernel_rfl) (of_decide_eq_true (by kernel_rfl)) k2 bel lt2) trodAll_mk0))), rfl, bel.frame _, fun h => by cases h⟩
  clear hW' hcnd hfz hnd hA0 hA hval0
  obtain ⟨ao, L, cap, rfl, hLc, hcm, hn0, hr⟩ := open_rows (hval 0 38 v0 rfl rfl) h0
  obtain ⟨at_, rfl⟩ := okWide_int Try.underlying3 (hval 1 3 v1 rfl rfl)
  obtain ⟨by_, rfl⟩ := open_byte (hval 2 5 v2 rfl rfl) h2
  exact (sums_walk ao cap L at_ by_ W hLc hcm hr).mono fun e W' ⟨he, bel⟩ => post e W' he bel

theorem over : Rows.octetSumsRow.holds Try.pinned (OpenSpec.ofChange Rows.octetSumsSpec) :=
  OpenClaim.holds_of_wide 5 Try.f5 rfl rfl rfl rfl rfl rfl rfl ⟨rfl, rfl, rfl, rfl, rfl⟩ rfl rfl rfl rfl rfl (by kernel_rfl) Try.func5 (by kernel_rfl)
    (of_decide_eq_true (by kernel_rfl)) (by unfold Func.isWrapper; first | (rw [if_pos (by decide +kernel)]; kernel_rfl) | (rw [if_neg (by decide +kernel)]; exact ⟨rfl, rfl⟩))
    (fun os started H enc _ => lifted os started H enc)
end OctetSumsLift

/-- The statement. -/
theorem octetSums_holds : Rows.OctetSumsSaid := OctetSumsLift.over
#print axioms octetSums_holds
end Go.Proofs.Ytofkjogjnhnchaa
