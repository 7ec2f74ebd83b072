/- Texts put together: WFp, FrEnc. -/
import Derived.Test.YthlcmjgdilebeaaPa32
import Derived.Test.YthlcmjgdilebeaaPa33
namespace Go.Proofs.Ythlcmjgdilebeaa
open Go.RowKit

def badS : ByteArray := ⟨#[49, 50, 51, 52, 53, 54, 55, 56, 57, 48, 49, 50, 51, 52, 53, 54, 55]⟩
theorem no_nums {d : Wd} (h : numsW d = false) : mayW d = false := by
  rw [← docW_eq]; unfold docW; rw [h, Bool.and_false, Bool.false_and]
theorem no_pl {d : Wd} (h : eqPl (namedW d) d.pl = false) : mayW d = false := by
  rw [← docW_eq]; unfold docW; rw [h, Bool.false_and, Bool.false_and, Bool.and_false]
theorem no_ok {d : Wd} (h : okD d = false) : mayW d = false := by
  rw [← docW_eq]; unfold docW; rw [h, Bool.false_and, Bool.false_and]
theorem bad_zone (d : Wd) : mayW { d with zone := -1 } = false := no_nums (by simp [numsW, numW])
theorem bad_off (d : Wd) : mayW { d with off := 1099511627777 } = false := no_nums (by simp [numsW, numW])
theorem bad_host (d : Wd) : mayW { d with host := -1 } = false := no_nums (by simp [numsW, numW])
theorem bad_kind (d : Wd) : mayW { d with kind := 11 } = false := no_ok (by simp [okD])
theorem kinds (k : Int) : (k = 1 ∨ k = 2 ∨ k = 3 ∨ k = 4 ∨ k = 5 ∨ k = 6 ∨ k = 7 ∨ k = 8 ∨ k = 9 ∨ k = 10) ∨ (k ≠ 1 ∧ k ≠ 2 ∧ k ≠ 3 ∧ k ≠ 4 ∧ k ≠ 5 ∧ k ≠ 6 ∧ k ≠ 7 ∧ k ≠ 8 ∧ k ≠ 9 ∧ k ≠ 10) := by omega
theorem bad_err (d : Wd) : mayW { d with err := 20 } = false := by
  by_cases k : d.kind = 6
  · exact no_ok (by simp [okD, k])
  · refine no_pl ?_
    unfold eqPl
    have : (namedW { d with err := 20 }).err = 0 := by unfold namedW; simp only [k, if_false]; split <;> (try split) <;> (try split) <;> (try split) <;> (try split) <;> (try split) <;> rfl
    simp [this, Wd.pl]
theorem bad_span (d : Wd) : mayW { d with sf := badS } = false := by
  by_cases k : d.kind = 7
  · have : isB badS d.st = false := by
      unfold isB
      have : badS.size = 17 := rfl
      simp [this]
    exact no_ok (by simp [okD, k, this])
  · refine no_pl ?_
    unfold eqPl
    have : (namedW { d with sf := badS }).sf = e0 := by unfold namedW; simp only [k, if_false]; split <;> (try split) <;> (try split) <;> (try split) <;> (try split) <;> (try split) <;> rfl
    have hne : (e0.toList = badS.toList) = False := by
      rw [eq_iff_iff, iff_false]
      decide +kernel
    simp [this, Wd.pl, hne]
theorem bad_client (d : Wd) : mayW { d with op := { d.op with client := 1048577 } } = false := by
  by_cases k : d.kind = 5
  · exact no_ok (by simp [okD, k, mayO])
  by_cases k6 : d.kind = 6
  · exact no_ok (by simp [okD, k6])
  · refine no_pl ?_
    unfold eqPl eqR
    have : (namedW { d with op := { d.op with client := 1048577 } }).op.client = 0 := by unfold namedW; simp only [k, k6, if_false]; split <;> (try split) <;> (try split) <;> (try split) <;> (try split) <;> rfl
    simp [this, Wd.pl]
theorem bad_change (d : Wd) : mayW { d with ch := { d.ch with zone := -1 } } = false := by
  by_cases k : d.kind = 4
  · exact no_ok (by simp [okD, k, mayC])
  · refine no_pl ?_
    unfold eqPl eqCh
    have : (namedW { d with ch := { d.ch with zone := -1 } }).ch.zone = 0 := by unfold namedW; simp only [k, if_false]; split <;> (try split) <;> (try split) <;> (try split) <;> (try split) <;> (try split) <;> rfl
    simp [this, Wd.pl]
end Go.Proofs.Ythlcmjgdilebeaa

namespace Go.Proofs.Ythlcmjgdilebeaa.F
set_option maxRecDepth 20000
open Go.RowKit

theorem flatR_take_next (L : List RowR) (k : Nat) (h : k < L.length) : flatR (L.take (k + 1)) = flatR (L.take k) ++ L[k].bs := by
  unfold flatR
  rw [List.take_succ_eq_append_getElem h, List.flatMap_append]
  simp
theorem flatR_take_le (L : List RowR) (k : Nat) : (flatR (L.take k)).length ≤ (flatR L).length := by
  have : flatR L = flatR (L.take k) ++ flatR (L.drop k) := by unfold flatR; rw [← List.flatMap_append, List.take_append_drop]
  rw [this, List.length_append]; omega
/-- The post of Encode. -/
def EncPost (w : World) (p : List UInt8) (e : Ending) (w' : World) : Prop := ∃ ao cap, e = .returned (.tuple #[.slice ao (frameB p).length cap, .int .i64 0]) ∧ OwnC w' w.heap.size ao cap (frameB p) ∧ Below w.heap.size w w'
set_option maxHeartbeats 2000000 in
theorem encode_any (ao : Option Addr) (cap : Nat) (L : List RowR) (D : Nat → Prop) (w : World) (h : RsAt w D ao L) (hc : L.length ≤ cap) (hm : L.length ≤ 140737488355328) (hl : (flatR L).length ≤ 1048576) :
    Calls Try.prog 28 #[.slice ao L.length cap] w (EncPost w (flatR L)) := by
  have H := Lib.hid h
  clear h
  go_enter Try.func28, Try.ntmps28
  go_wp2_with fail
  go_loopw [4, 10] (fun s4 s10 wr => wr = w ∧ ∃ k : Nat, s10 = .int .i64 k ∧ s4 = .int .i64 ((flatR (L.take k)).length : Nat) ∧ k ≤ L.length) (fun _ s10 _ => L.length - (intOf s10).toNat)
  case atStart => exact ⟨rfl, 0, rfl, rfl, by omega⟩
  case round =>
    obtain ⟨rfl, k, rfl, rfl, hk⟩ := hrel
    have h1 := flatR_take_le L k
    obtain ⟨n, hn⟩ : ∃ n, n = (flatR (L.take k)).length := ⟨_, rfl⟩
    rw [← hn] at h1 ⊢
    by_cases hlt : k < L.length
    · obtain ⟨b, off, rfl, hb, -, hr⟩ := H.out (by omega)
      have hra := hr k hlt
      obtain ⟨ro, rc, rb, hrr⟩ : ∃ ro rc rb, (⟨ro, rc, rb⟩ : RowR) = L[k] := ⟨_, _, _, rfl⟩
      rw [← hrr] at hra
      have c0 := hra.c
      simp only at c0
      have h2 := flatR_take_next L k hlt
      have h3 := flatR_take_le L (k + 1)
      have h4 : n + rb.length = (flatR (L.take (k + 1))).length := by rw [h2, List.length_append, ← hn, ← hrr]
      have H4 := Lib.hid h4
      have h5 : n + rb.length ≤ 1048576 := by omega
      clear h2 h3 h4 hrr hra hr hn
      go_wp2_with fail
      go_roundw
      case rel => exact ⟨by first | rfl | trivial, k + 1, by go_num, by rw [← H4.out]; go_num, by omega⟩
      case measure => simp [intOf]; omega
    · have hkL : L.take k = L := List.take_of_length_le (by omega)
      rw [hkL] at hn
      obtain ⟨p, hp⟩ : ∃ p, p = flatR L := ⟨_, rfl⟩
      rw [← hp] at hn hl ⊢
      have Hn := Lib.hid hn
      have Hp := Lib.hid hp
      have hn2 : n ≤ 1048576 := by omega
      clear hkL hn hp h1
      go_wp2_with fail
      refine (headOf_any n _ (by omega)).mono ?_
      rintro e w1 ⟨ho, hc1, rfl, h1, b1⟩
      have H1 := Lib.hid h1.sl
      have B1 := Lib.hid b1
      have s1 := b1.size
      have HR := Lib.hid (H.out.grow b1)
      clear h1 b1
      go_wp2_with fail
      refine (join_any ao cap L D _ HR.out hc hm (by rw [← Hp.out]; omega)).mono ?_
      rintro e w2 ⟨bo, bc, rfl, h2, b2⟩
      rw [← Hp.out] at h2 ⊢
      have H2 := Lib.hid h2.sl
      have H12 := Lib.hid (H1.out.grow b2)
      have B2 := Lib.hid (B1.out.trans (b2.mono s1))
      have s2 := B2.out.size
      clear h2 b2 H1 B1 HR
      go_wp2_with fail
      refine (join_two H12.out H2.out 38 _ rfl (by rw [headB_length]; omega)).mono ?_
      rintro e w3 ⟨co, cc, rfl, h3, b3⟩
      have hlen : (headB n ++ p).length = n + 8 := by rw [List.length_append, headB_length, ← Hn.out]; omega
      obtain ⟨q, hq⟩ : ∃ q, q = headB n ++ p := ⟨_, rfl⟩
      rw [← hq] at h3 hlen ⊢
      have Hq := Lib.hid hq
      have Hlen := Lib.hid hlen
      have H3 := Lib.hid h3.sl
      have B3 := Lib.hid (B2.out.trans (b3.mono s2))
      have s3 := B3.out.size
      have hsl := sumOf_lt q
      clear h3 b3 H12 H2 B2 hq hlen
      go_wp2_with fail
      refine (sum_one H3.out 38 _ rfl).mono ?_
      rintro e w4 ⟨rfl, rfl⟩
      go_wp2_with fail
      refine (qframe.four_any _ _ hsl).mono ?_
      rintro e w4 ⟨rfl, h4, b4⟩
      simp only [World.alloc, Array.size_push] at h4
      have H4 := Lib.hid h4.sl
      have b4' := (below_allocF w3 (.cells #[.slice co q.length cc] 38)).trans (b4.mono (by simp))
      have B4 := Lib.hid (B3.out.trans (b4'.mono s3))
      have H34 := Lib.hid (H3.out.grow b4')
      have s4 := B4.out.size
      clear h4 b4 b4' H3 B3
      go_wp2_with fail
      refine (join_two H34.out H4.out 38 _ rfl (by rw [Hlen.out, fourB_length]; omega)).mono ?_
      rintro e w5 ⟨fo, fc, rfl, h5, b5⟩
      have he : q ++ fourB (sumOf q) = frameB p := by rw [Hq.out, Hn.out]; rfl
      rw [he] at h5 ⊢
      have H5 := Lib.hid (ownC_weak h5 s4)
      have B5 := Lib.hid (B4.out.trans (b5.mono s4))
      clear h5 b5 he
      go_wp2_with fail
      go_ret2
      obtain rfl := Hp.out
      exact ⟨fo, fc, rfl, H5.out, B5.out⟩
end Go.Proofs.Ythlcmjgdilebeaa.F
