/- The document's Num, Nums and Bytes. -/
import Derived.Test.YtbkagefapmnojaaWrRows
import Derived.Laws.Bits64b
namespace Go.Proofs.Ytbkagefapmnojaa
open Go.RowKit

theorem bits_and_seven (q : Nat) (h : q ≤ 4611686018427387904) : bits .and .u64 (q : Int) 127 = (q : Int) % 128 := by
  rw [show (127 : Int) = ((127 : Nat) : Int) from rfl, bits_and_u64_nat q 127 (by omega) (by omega)]
  rw [show (127 : Nat) = 2 ^ 7 - 1 from rfl, Nat.and_two_pow_sub_one_eq_mod]
  omega
theorem bits_more7 (q : Nat) : bits BinOp.or IntKind.u8 ((q : Int) % 128) 128 = ((UInt8.ofNat (q % 128 + 128)).toNat : Int) := by
  have h := bits_more (q % 128)
  rw [show (((q % 128 : Nat)) : Int) % 256 = (q : Int) % 128 from by omega, Nat.mod_mod] at h
  exact h

set_option maxHeartbeats 4000000 in
theorem refNum_any (v : Int) (w : World) : Calls Try.prog 40 #[.int .i64 v] w (FreshB w (encN (clampN v))) := by
  obtain ⟨i0, hi, hz0, hz1, hz2⟩ := info_parts byteInfo
  obtain ⟨u, hu⟩ : ∃ u, u = clampN v := ⟨_, rfl⟩
  have hul : u ≤ 4611686018427387904 := hu ▸ clampN_le v
  rw [← hu]
  have Hul := Lib.hid hul
  by_cases hbig : 4611686018427387904 < v
  · have hue : u = 4611686018427387904 := by rw [hu]; unfold clampN; omega
    have Hue := Lib.hid hue
    clear hu hue hul
    go_enter Try.func40, Try.ntmps40
    go_wp2_with fail
    go_loopw [3, 4] (fun s3 s4 wr => ∃ (q : Nat) (cur : List UInt8) (ao : Option Addr) (cap : Nat), s3 = .int .u64 q ∧ s4 = .slice ao cur.length cap ∧ q ≤ 4611686018427387904 ∧ cur.length ≤ 10 ∧ Hid (OwnB wr w.heap.size ao cap cur) ∧ Hid (Below w.heap.size w wr) ∧ Hid (cur ++ encN q = encN u)) (fun s3 _ _ => (intOf s3).toNat)
    case atStart => exact ⟨u, [], none, 0, by rw [Hue.out] <;> rfl, rfl, Hul.out, by simp, ⟨rfl, .inl ⟨rfl, rfl⟩⟩, Below.refl _ _, rfl⟩
    case round =>
      clear Hue
      obtain ⟨q, cur, ao, cap, rfl, rfl, hq, hcl, Hown, Hb, Hfull⟩ := hrel
      have hbs := Hb.out.size
      have hfl := congrArg List.length Hfull.out
      rw [List.length_append] at hfl
      have hel := encN_length u
      by_cases h128 : (128 : Int) ≤ q
      · have hb7 := bits_and_seven q hq
        have hbm := bits_more7 q
        obtain ⟨c, hc⟩ : ∃ c : UInt8, c = UInt8.ofNat (q % 128 + 128) := ⟨_, rfl⟩
        rw [← hc] at hbm
        have Hc := Lib.hid hc
        clear hc
        have hcl2 : cur.length + 1 ≤ 10 := by
          have h1 := (encN_length q).2
          omega
        go_wp2_with (at_builtin; go_must (refine wpList_append_foot _ rfl (.tmp 13) (.tmp 18) 35 rfl w.heap.size 5 i0 (.int .u8 0) 1 1 Try.underlying35 hi hz0 hz1 hz2 rfl (by decide) ao cur.length cap (bytV cur) rfl (Hown.out.alloc _) (some ⟨wr.heap.size, 0, none⟩) 1 1 (bytV [c]) rfl (fun h => by cases h) rfl (one_cell _ _ _ _ rfl) (bytV_one [c]) (by unfold maxLen; omega) (by omega) (by simp; omega) ?_))
        intro co c' w1 hown1 hgrow1 hco1
        have hb1 : Below w.heap.size w w1 := below_grown (Hb.out.alloc hbs _) (by simp; omega) hgrow1 (fun k hk => own_block Hown.out hk)
        have ho1 : OwnB w1 w.heap.size co c' (cur ++ [c]) := by unfold OwnB; rw [← bytV_append, List.length_append]; exact hown1
        have Hb1 := Lib.hid hb1
        have Ho1 := Lib.hid ho1
        clear hown1 hgrow1 hco1 hb1 ho1 hbm hb7
        go_wp2_with fail
        go_roundw
        case rel => exact ⟨q / 128, cur ++ [c], co, c', by simp, by simp, by omega, by simp; omega, Ho1, Hb1, by unfold Hid; rw [List.append_assoc]; rw [← Hfull.out, encN_big (n := q) (by omega) hq, ← Hc.out]; rfl⟩
        case measure => simp [intOf]; omega
      · obtain ⟨c, hc⟩ : ∃ c : UInt8, c = UInt8.ofNat q := ⟨_, rfl⟩
        have hcq : (q : Int) = (c.toNat : Int) := by rw [hc]; simp; omega
        have Hc := Lib.hid hc
        have Hcq := Lib.hid hcq
        clear hc hcq
        go_wp2_with (at_builtin; go_must (refine wpList_append_foot _ rfl (.tmp 22) (.tmp 25) 35 rfl w.heap.size 5 i0 (.int .u8 0) 1 1 Try.underlying35 hi hz0 hz1 hz2 rfl (by decide) ao cur.length cap (bytV cur) rfl (Hown.out.alloc _) (some ⟨wr.heap.size, 0, none⟩) 1 1 (bytV [c]) rfl (fun h => by cases h) rfl (one_cell _ _ _ _ Hcq.out) (bytV_one [c]) (by unfold maxLen; omega) (by omega) (by simp; omega) ?_))
        intro co c' w1 hown1 hgrow1 hco1
        have hb1 : Below w.heap.size w w1 := below_grown (Hb.out.alloc hbs _) (by simp; omega) hgrow1 (fun k hk => own_block Hown.out hk)
        have ho1 : OwnB w1 w.heap.size co c' (cur ++ [c]) := by unfold OwnB; rw [← bytV_append, List.length_append]; exact hown1
        have hcc : cur ++ [c] = encN u := by rw [← Hfull.out, encN_small (n := q) (by omega), ← Hc.out]
        rw [hcc] at ho1
        have hlen : cur.length + 1 = (encN u).length := by rw [← hcc]; simp
        have Hb1 := Lib.hid hb1
        have Ho1 := Lib.hid ho1
        have Hlen := Lib.hid hlen
        clear hown1 hgrow1 hco1 hb1 ho1 hcc hlen
        go_wp2_with fail
        go_ret
        exact ⟨co, c', by rw [← Hlen.out]; rfl, Ho1.out, Hb1.out⟩
  by_cases hpos : 0 < v
  · obtain ⟨n, rfl⟩ : ∃ n : Nat, v = n := ⟨v.toNat, by omega⟩
    have hue : u = n := by rw [hu]; unfold clampN; omega
    have Hue := Lib.hid hue
    have hwr : IntKind.u64.wrap (n : Int) = n := by rw [IntKind.wrap_u64]; omega
    clear hu hue hul
    go_enter Try.func40, Try.ntmps40
    go_wp2_with fail
    go_loopw [3, 4] (fun s3 s4 wr => ∃ (q : Nat) (cur : List UInt8) (ao : Option Addr) (cap : Nat), s3 = .int .u64 q ∧ s4 = .slice ao cur.length cap ∧ q ≤ 4611686018427387904 ∧ cur.length ≤ 10 ∧ Hid (OwnB wr w.heap.size ao cap cur) ∧ Hid (Below w.heap.size w wr) ∧ Hid (cur ++ encN q = encN u)) (fun s3 _ _ => (intOf s3).toNat)
    case atStart => exact ⟨u, [], none, 0, by rw [Hue.out] <;> rfl, rfl, Hul.out, by simp, ⟨rfl, .inl ⟨rfl, rfl⟩⟩, Below.refl _ _, rfl⟩
    case round =>
      clear Hue
      obtain ⟨q, cur, ao, cap, rfl, rfl, hq, hcl, Hown, Hb, Hfull⟩ := hrel
      have hbs := Hb.out.size
      have hfl := congrArg List.length Hfull.out
      rw [List.length_append] at hfl
      have hel := encN_length u
      by_cases h128 : (128 : Int) ≤ q
      · have hb7 := bits_and_seven q hq
        have hbm := bits_more7 q
        obtain ⟨c, hc⟩ : ∃ c : UInt8, c = UInt8.ofNat (q % 128 + 128) := ⟨_, rfl⟩
        rw [← hc] at hbm
        have Hc := Lib.hid hc
        clear hc
        have hcl2 : cur.length + 1 ≤ 10 := by
          have h1 := (encN_length q).2
          omega
        go_wp2_with (at_builtin; go_must (refine wpList_append_foot _ rfl (.tmp 13) (.tmp 18) 35 rfl w.heap.size 5 i0 (.int .u8 0) 1 1 Try.underlying35 hi hz0 hz1 hz2 rfl (by decide) ao cur.length cap (bytV cur) rfl (Hown.out.alloc _) (some ⟨wr.heap.size, 0, none⟩) 1 1 (bytV [c]) rfl (fun h => by cases h) rfl (one_cell _ _ _ _ rfl) (bytV_one [c]) (by unfold maxLen; omega) (by omega) (by simp; omega) ?_))
        intro co c' w1 hown1 hgrow1 hco1
        have hb1 : Below w.heap.size w w1 := below_grown (Hb.out.alloc hbs _) (by simp; omega) hgrow1 (fun k hk => own_block Hown.out hk)
        have ho1 : OwnB w1 w.heap.size co c' (cur ++ [c]) := by unfold OwnB; rw [← bytV_append, List.length_append]; exact hown1
        have Hb1 := Lib.hid hb1
        have Ho1 := Lib.hid ho1
        clear hown1 hgrow1 hco1 hb1 ho1 hbm hb7
        go_wp2_with fail
        go_roundw
        case rel => exact ⟨q / 128, cur ++ [c], co, c', by simp, by simp, by omega, by simp; omega, Ho1, Hb1, by unfold Hid; rw [List.append_assoc]; rw [← Hfull.out, encN_big (n := q) (by omega) hq, ← Hc.out]; rfl⟩
        case measure => simp [intOf]; omega
      · obtain ⟨c, hc⟩ : ∃ c : UInt8, c = UInt8.ofNat q := ⟨_, rfl⟩
        have hcq : (q : Int) = (c.toNat : Int) := by rw [hc]; simp; omega
        have Hc := Lib.hid hc
        have Hcq := Lib.hid hcq
        clear hc hcq
        go_wp2_with (at_builtin; go_must (refine wpList_append_foot _ rfl (.tmp 22) (.tmp 25) 35 rfl w.heap.size 5 i0 (.int .u8 0) 1 1 Try.underlying35 hi hz0 hz1 hz2 rfl (by decide) ao cur.length cap (bytV cur) rfl (Hown.out.alloc _) (some ⟨wr.heap.size, 0, none⟩) 1 1 (bytV [c]) rfl (fun h => by cases h) rfl (one_cell _ _ _ _ Hcq.out) (bytV_one [c]) (by unfold maxLen; omega) (by omega) (by simp; omega) ?_))
        intro co c' w1 hown1 hgrow1 hco1
        have hb1 : Below w.heap.size w w1 := below_grown (Hb.out.alloc hbs _) (by simp; omega) hgrow1 (fun k hk => own_block Hown.out hk)
        have ho1 : OwnB w1 w.heap.size co c' (cur ++ [c]) := by unfold OwnB; rw [← bytV_append, List.length_append]; exact hown1
        have hcc : cur ++ [c] = encN u := by rw [← Hfull.out, encN_small (n := q) (by omega), ← Hc.out]
        rw [hcc] at ho1
        have hlen : cur.length + 1 = (encN u).length := by rw [← hcc]; simp
        have Hb1 := Lib.hid hb1
        have Ho1 := Lib.hid ho1
        have Hlen := Lib.hid hlen
        clear hown1 hgrow1 hco1 hb1 ho1 hcc hlen
        go_wp2_with fail
        go_ret
        exact ⟨co, c', by rw [← Hlen.out]; rfl, Ho1.out, Hb1.out⟩
  · have hue : u = 0 := by rw [hu]; unfold clampN; omega
    have Hue := Lib.hid hue
    clear hu hue hul
    go_enter Try.func40, Try.ntmps40
    go_wp2_with fail
    go_loopw [3, 4] (fun s3 s4 wr => ∃ (q : Nat) (cur : List UInt8) (ao : Option Addr) (cap : Nat), s3 = .int .u64 q ∧ s4 = .slice ao cur.length cap ∧ q ≤ 4611686018427387904 ∧ cur.length ≤ 10 ∧ Hid (OwnB wr w.heap.size ao cap cur) ∧ Hid (Below w.heap.size w wr) ∧ Hid (cur ++ encN q = encN u)) (fun s3 _ _ => (intOf s3).toNat)
    case atStart => exact ⟨u, [], none, 0, by rw [Hue.out] <;> rfl, rfl, Hul.out, by simp, ⟨rfl, .inl ⟨rfl, rfl⟩⟩, Below.refl _ _, rfl⟩
    case round =>
      clear Hue
      obtain ⟨q, cur, ao, cap, rfl, rfl, hq, hcl, Hown, Hb, Hfull⟩ := hrel
      have hbs := Hb.out.size
      have hfl := congrArg List.length Hfull.out
      rw [List.length_append] at hfl
      have hel := encN_length u
      by_cases h128 : (128 : Int) ≤ q
      · have hb7 := bits_and_seven q hq
        have hbm := bits_more7 q
        obtain ⟨c, hc⟩ : ∃ c : UInt8, c = UInt8.ofNat (q % 128 + 128) := ⟨_, rfl⟩
        rw [← hc] at hbm
        have Hc := Lib.hid hc
        clear hc
        have hcl2 : cur.length + 1 ≤ 10 := by
          have h1 := (encN_length q).2
          omega
        go_wp2_with (at_builtin; go_must (refine wpList_append_foot _ rfl (.tmp 13) (.tmp 18) 35 rfl w.heap.size 5 i0 (.int .u8 0) 1 1 Try.underlying35 hi hz0 hz1 hz2 rfl (by decide) ao cur.length cap (bytV cur) rfl (Hown.out.alloc _) (some ⟨wr.heap.size, 0, none⟩) 1 1 (bytV [c]) rfl (fun h => by cases h) rfl (one_cell _ _ _ _ rfl) (bytV_one [c]) (by unfold maxLen; omega) (by omega) (by simp; omega) ?_))
        intro co c' w1 hown1 hgrow1 hco1
        have hb1 : Below w.heap.size w w1 := below_grown (Hb.out.alloc hbs _) (by simp; omega) hgrow1 (fun k hk => own_block Hown.out hk)
        have ho1 : OwnB w1 w.heap.size co c' (cur ++ [c]) := by unfold OwnB; rw [← bytV_append, List.length_append]; exact hown1
        have Hb1 := Lib.hid hb1
        have Ho1 := Lib.hid ho1
        clear hown1 hgrow1 hco1 hb1 ho1 hbm hb7
        go_wp2_with fail
        go_roundw
        case rel => exact ⟨q / 128, cur ++ [c], co, c', by simp, by simp, by omega, by simp; omega, Ho1, Hb1, by unfold Hid; rw [List.append_assoc]; rw [← Hfull.out, encN_big (n := q) (by omega) hq, ← Hc.out]; rfl⟩
        case measure => simp [intOf]; omega
      · obtain ⟨c, hc⟩ : ∃ c : UInt8, c = UInt8.ofNat q := ⟨_, rfl⟩
        have hcq : (q : Int) = (c.toNat : Int) := by rw [hc]; simp; omega
        have Hc := Lib.hid hc
        have Hcq := Lib.hid hcq
        clear hc hcq
        go_wp2_with (at_builtin; go_must (refine wpList_append_foot _ rfl (.tmp 22) (.tmp 25) 35 rfl w.heap.size 5 i0 (.int .u8 0) 1 1 Try.underlying35 hi hz0 hz1 hz2 rfl (by decide) ao cur.length cap (bytV cur) rfl (Hown.out.alloc _) (some ⟨wr.heap.size, 0, none⟩) 1 1 (bytV [c]) rfl (fun h => by cases h) rfl (one_cell _ _ _ _ Hcq.out) (bytV_one [c]) (by unfold maxLen; omega) (by omega) (by simp; omega) ?_))
        intro co c' w1 hown1 hgrow1 hco1
        have hb1 : Below w.heap.size w w1 := below_grown (Hb.out.alloc hbs _) (by simp; omega) hgrow1 (fun k hk => own_block Hown.out hk)
        have ho1 : OwnB w1 w.heap.size co c' (cur ++ [c]) := by unfold OwnB; rw [← bytV_append, List.length_append]; exact hown1
        have hcc : cur ++ [c] = encN u := by rw [← Hfull.out, encN_small (n := q) (by omega), ← Hc.out]
        rw [hcc] at ho1
        have hlen : cur.length + 1 = (encN u).length := by rw [← hcc]; simp
        have Hb1 := Lib.hid hb1
        have Ho1 := Lib.hid ho1
        have Hlen := Lib.hid hlen
        clear hown1 hgrow1 hco1 hb1 ho1 hcc hlen
        go_wp2_with fail
        go_ret
        exact ⟨co, c', by rw [← Hlen.out]; rfl, Ho1.out, Hb1.out⟩

set_option maxHeartbeats 2000000 in
theorem refNums_any (ao : Option Addr) (cv : Nat) (vs : List Int) (w : World) (hrow : 0 < vs.length → ∃ b off, ao = some ⟨b, off, none⟩ ∧ b < w.heap.size ∧ IRow w b off vs) (hm : vs.length ≤ 1000000) :
    Calls Try.prog 34 #[.slice ao vs.length cv] w (FreshB w (encs vs)) := by
  obtain ⟨i0, hi, hz0, hz1, hz2⟩ := info_parts byteInfo
  have Hrow := Lib.hid hrow
  clear hrow
  go_enter Try.func34, Try.ntmps34
  go_wp2_with fail
  go_loopw [4, 3] (fun s4 s3 wr => ∃ (k : Nat) (ao : Option Addr) (cap : Nat), s4 = .int .i64 k ∧ s3 = .slice ao (encs (vs.take k)).length cap ∧ k ≤ vs.length ∧ Hid (OwnB wr w.heap.size ao cap (encs (vs.take k))) ∧ Hid (Below w.heap.size w wr)) (fun s4 _ _ => vs.length - (intOf s4).toNat)
  case atStart => exact ⟨0, none, 0, rfl, rfl, by omega, ⟨rfl, .inl ⟨rfl, rfl⟩⟩, Below.refl _ _⟩
  case round =>
    obtain ⟨k, bo, cap, rfl, rfl, hk, Hown, Hb⟩ := hrel
    have hbs := Hb.out.size
    by_cases hlt : (k : Int) < vs.length
    · obtain ⟨b, off, rfl, hb, hr⟩ := Hrow.out (by omega)
      obtain ⟨v, hv⟩ : ∃ v, v = vs[k]'(by omega) := ⟨_, rfl⟩
      have hcv := (Hb.out.cell (p := ⟨b, off + k, none⟩) hb).trans (hr k (by omega))
      rw [← hv] at hcv
      have Hv := Lib.hid hv
      clear hv hr
      have hl := encs_length (vs.take k)
      have hl2 : (vs.take k).length ≤ k := List.length_take_le _ _
      go_wp2_with fail
      refine (refNum_any v wr).mono ?_
      rintro e w1 ⟨co, cc, rfl, ho1, hb1⟩
      have hcl := (encN_length (clampN v)).1
      have hb1' := Hb.out.trans (hb1.mono hbs)
      have hs1 := hb1'.size
      have hown1 : OwnB w1 w.heap.size bo cap (encs (vs.take k)) := by
        refine ⟨Hown.out.1, ?_⟩
        rcases Hown.out.2 with h2 | ⟨g, c, cur, hv, hg, hh, r⟩
        · exact .inl h2
        · exact .inr ⟨g, c, cur, hv, hg, (hb1.block g (Array.getElem?_eq_some_iff.1 hh).1).trans hh, r⟩
      have Hown1 := Lib.hid hown1
      have Ho1 := Lib.hid ho1
      have Hb1 := Lib.hid hb1'
      clear hown1 ho1 hb1 hb1' Hown Hb
      go_wp2_with (at_builtin; go_must (refine wpList_append_foot _ rfl (.tmp 11) (.tmp 16) 35 rfl w.heap.size 5 i0 (.int .u8 0) 1 1 Try.underlying35 hi hz0 hz1 hz2 rfl (by decide) bo (encs (vs.take k)).length cap (bytV (encs (vs.take k))) rfl Hown1.out co (encN (clampN v)).length cc (bytV (encN (clampN v))) rfl Ho1.out.none (by rw [bytV_length, Nat.mul_one]) Ho1.out.at.cells (bytV_one _) (by unfold maxLen; omega) (by omega) hs1 ?_))
      intro xo c' w2 hown2 hgrow2 hco2
      have hb2 : Below w.heap.size w w2 := below_grown Hb1.out hs1 hgrow2 (fun j hj => own_block Hown1.out hj)
      have hen : encs (vs.take k) ++ encN (clampN v) = encs (vs.take (k + 1)) := by rw [encs_snoc vs k (by omega), Hv.out]
      have ho2 : OwnB w2 w.heap.size xo c' (encs (vs.take (k + 1))) := by unfold OwnB; rw [← hen, ← bytV_append, List.length_append]; exact hown2
      have hle2 : (encs (vs.take k)).length + (encN (clampN v)).length = (encs (vs.take (k + 1))).length := by rw [← hen, List.length_append]
      have Hb2 := Lib.hid hb2
      have Ho2 := Lib.hid ho2
      have Hle2 := Lib.hid hle2
      clear hown2 hgrow2 hco2 hb2 ho2 hen hle2
      go_wp2_with fail
      go_roundw
      case rel => exact ⟨k + 1, xo, c', by go_num, by rw [← Hle2.out], by omega, Ho2, Hb2⟩
      case measure => simp [intOf]; omega
    · go_wp2_with fail
      go_ret
      have ht : vs.take k = vs := List.take_of_length_le (by omega)
      have ho := Hown.out
      rw [ht] at ho
      exact ⟨bo, cap, by show Ending.returned (.slice bo (encs (vs.take k)).length cap) = _; rw [ht], ho, Hb.out⟩

end Go.Proofs.Ytbkagefapmnojaa
