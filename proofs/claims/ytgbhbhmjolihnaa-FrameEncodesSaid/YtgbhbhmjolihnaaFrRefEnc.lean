/- The contract of the document's Encode. -/
import Derived.Test.YtgbhbhmjolihnaaFrHelp
namespace Go.Proofs.Ytgbhbhmjolihnaa
open Go.RowKit Go.Joins

/-- The post of the document's Encode. -/
def REncPost (w : World) (p : List UInt8) (e : Ending) (w' : World) : Prop := ∃ ao cap, e = .returned (.tuple #[.slice ao (frameB p).length cap, .int .i64 0]) ∧ OwnB w' w.heap.size ao cap (frameB p) ∧ Below w.heap.size w w'
set_option maxHeartbeats 4000000 in
theorem refEncode_any (ao : Option Addr) (cap : Nat) (p : List UInt8) (w : World) (h : Sl w ao cap p) (hl : p.length ≤ 1048576) :
    Calls Try.prog 11 #[.slice ao p.length cap] w (REncPost w p) := by
  obtain ⟨i0, hi, hz0, hz1, hz2⟩ := info_parts byteInfo
  have H := Lib.hid h
  clear h
  have hsl := sumOf_lt (fourB p.length)
  have hsl2 := sumOf_lt (headB p.length ++ p)
  go_enter Try.func11, Try.ntmps11
  go_wp2_with fail
  refine (qsatrapyref1.Four_any p.length _ (by omega)).mono ?_
  rintro e w1 ⟨rfl, h1, b1⟩
  have H1 := Lib.hid h1
  have B1 := Lib.hid b1
  have s1 := b1.size
  have hg1 := (own_lt h1 w.heap.size rfl).1
  have hsum := refSum_any (some ⟨w.heap.size, 0, none⟩) 4 (fourB p.length) w1 h1.at (by rw [fourB_length]; omega)
  have Hsum := Lib.hid hsum
  clear h1 b1 hsum
  go_wp2_with fail
  refine (show Calls Try.prog 30 #[.slice (some ⟨w.heap.size, 0, none⟩) 4 4] w1 _ from Hsum.out).mono ?_
  rintro e w2 ⟨rfl, rfl⟩
  go_wp2_with fail
  refine (qsatrapyref1.Four_any _ _ hsl).mono ?_
  rintro e w3 ⟨rfl, h3, b3⟩
  have H3 := Lib.hid h3
  have H13 := Lib.hid (own_grow H1.out b3)
  have B3 := Lib.hid (B1.out.trans (b3.mono s1))
  have s3 := b3.size
  clear h3 b3 H1 B1 Hsum
  go_wp2_with (at_builtin; go_must (refine wpList_append_foot _ rfl (.tmp 12) (.tmp 15) 22 rfl w.heap.size 5 i0 (.int .u8 0) 1 1 Try.underlying22 hi hz0 hz1 hz2 rfl (by decide) (some ⟨w.heap.size, 0, none⟩) 4 4 (bytV (fourB p.length)) rfl H13.out (some ⟨w2.heap.size, 0, none⟩) 4 4 (bytV (fourB (sumOf (fourB p.length)))) rfl (fun h => (nomatch h)) (by rw [bytV_length]; first | rfl | omega) (BAt.cells H3.out.at) (bytV_one _) (by unfold maxLen; omega) (by omega) (by omega) ?_))
  intro co c4 w4 hown hgrow hco
  have hb4 : Below w.heap.size w w4 := below_grown B3.out (by omega) hgrow (fun k hk => own_block H13.out hk)
  have ho4 : OwnB w4 w.heap.size co c4 (headB p.length) := by unfold OwnB headB; rw [← bytV_append]; exact hown
  have HO4 := Lib.hid ho4
  have HB4 := Lib.hid hb4
  have s4 := hb4.size
  have Hp4 := Lib.hid (H.out.grow hb4)
  obtain ⟨hd, hhd⟩ : ∃ hd, hd = headB p.length := ⟨_, rfl⟩
  rw [← hhd] at HO4 hsl2
  have Hhd := Lib.hid hhd
  have hdl : hd.length = 8 := by rw [hhd]; rfl
  have Hdl := Lib.hid hdl
  clear hown hgrow hco hb4 ho4 H13 H3 B3 hhd hdl
  have hO4 : w4.ownsRow w.heap.size 5 1 (.slice co 8 c4) 8 (bytV hd) := by have := HO4.out; unfold OwnB at this; rwa [Hdl.out] at this
  have HO4' := Lib.hid hO4
  clear hO4
  go_wp2_with (at_builtin; go_must (refine wpList_append_foot _ rfl (.tmp 17) (.tmp 18) 22 rfl w.heap.size 5 i0 (.int .u8 0) 1 1 Try.underlying22 hi hz0 hz1 hz2 rfl (by decide) co 8 c4 (bytV hd) rfl HO4'.out ao p.length cap (bytV p) rfl Hp4.out.n0 (by rw [bytV_length]; first | rfl | omega) (BAt.cells Hp4.out.at_) (bytV_one _) (by unfold maxLen; omega) (by omega) (by omega) ?_))
  intro do5 c5 w5 hown hgrow hco
  have hb5 : Below w.heap.size w w5 := below_grown HB4.out (by omega) hgrow (fun k hk => own_block HO4'.out hk)
  have hl5 : (hd ++ p).length = 8 + p.length := by rw [List.length_append, Hdl.out]
  have ho5 : OwnB w5 w.heap.size do5 c5 (hd ++ p) := by unfold OwnB; rw [hl5, ← bytV_append]; exact hown
  obtain ⟨q, hq⟩ : ∃ q, q = hd ++ p := ⟨_, rfl⟩
  rw [← hq] at ho5 hl5 hsl2
  have Hq := Lib.hid hq
  have Hl5 := Lib.hid hl5
  have HO5 := Lib.hid hown
  rw [bytV_append, ← hq] at HO5
  have HB5 := Lib.hid hb5
  have s5 := hb5.size
  have hsum := refSum_any do5 c5 q w5 ho5.at (by omega)
  rw [hl5] at hsum
  have Hsum := Lib.hid hsum
  clear hown hgrow hco hb5 ho5 hq hl5 HO4' HO4 HB4 Hp4 hsum
  go_wp2_with fail
  refine Hsum.out.mono ?_
  rintro e w6 ⟨rfl, rfl⟩
  go_wp2_with fail
  refine (qsatrapyref1.Four_any _ _ hsl2).mono ?_
  rintro e w7 ⟨rfl, h7, b7⟩
  have H7 := Lib.hid h7
  have hO7 : OwnB w7 w.heap.size do5 c5 q := own_grow (by have := HO5.out; unfold OwnB; rw [Hl5.out]; exact this) b7
  unfold OwnB at hO7
  rw [Hl5.out] at hO7
  have HO7 := Lib.hid hO7
  have HB7 := Lib.hid (HB5.out.trans (b7.mono s5))
  have s7 := HB7.out.size
  clear h7 b7 hO7 HO5 HB5 Hsum
  go_wp2_with (at_builtin; go_must (refine wpList_append_foot _ rfl (.tmp 20) (.tmp 23) 22 rfl w.heap.size 5 i0 (.int .u8 0) 1 1 Try.underlying22 hi hz0 hz1 hz2 rfl (by decide) do5 (8 + p.length) c5 (bytV q) rfl HO7.out (some ⟨w6.heap.size, 0, none⟩) 4 4 (bytV (fourB (sumOf q))) rfl (fun h => (nomatch h)) (by rw [bytV_length]; first | rfl | omega) (BAt.cells H7.out.at) (bytV_one _) (by unfold maxLen; omega) (by omega) (by omega) ?_))
  intro eo c8 w8 hown hgrow hco
  have hb8 : Below w.heap.size w w8 := below_grown HB7.out (by omega) hgrow (fun k hk => own_block HO7.out hk)
  have hF : q ++ fourB (sumOf q) = frameB p := by rw [Hq.out, Hhd.out]; rfl
  have hl8 : (frameB p).length = 8 + p.length + 4 := by rw [frameB_length]; omega
  have ho8 : OwnB w8 w.heap.size eo c8 (frameB p) := by unfold OwnB; rw [hl8, ← hF, ← bytV_append]; exact hown
  have HO8 := Lib.hid ho8
  have HB8 := Lib.hid hb8
  have Hl8 := Lib.hid hl8
  clear hown hgrow hco hb8 ho8 hF hl8 HO7 HB7 H7
  go_wp2_with fail
  go_ret2
  exact ⟨eo, c8, by rw [Hl8.out]; rfl, HO8.out, HB8.out⟩
end Go.Proofs.Ytgbhbhmjolihnaa
