/- The contract of Encode. -/
import Derived.Test.YtgbhbhmjolihnaaFrHead
namespace Go.Proofs.Ytgbhbhmjolihnaa
open Go.RowKit

theorem flatR_take_next (L : List RowR) (k : Nat) (h : k < L.length) : flatR (L.take (k + 1)) = flatR (L.take k) ++ L[k].bs := by
  unfold flatR
  rw [List.take_succ_eq_append_getElem h, List.flatMap_append]
  simp
theorem flatR_take_le (L : List RowR) (k : Nat) : (flatR (L.take k)).length ≤ (flatR L).length := by
  have : flatR L = flatR (L.take k) ++ flatR (L.drop k) := by unfold flatR; rw [← List.flatMap_append, List.take_append_drop]
  rw [this, List.length_append]; omega
/-- The post of Encode. -/
def EncPost (w : World) (p : List UInt8) (e : Ending) (w' : World) : Prop := ∃ ao cap, e = .returned (.tuple #[.slice ao (frameB p).length cap, .int .i64 0]) ∧ OwnC w' w.heap.size ao cap (frameB p) ∧ Below w.heap.size w w'
set_option maxHeartbeats 2000000 in
theorem encode_any (ao : Option Addr) (cap : Nat) (L : List RowR) (D : Nat → Prop) (w : World) (h : RsAt w D ao L) (hc : L.length ≤ cap) (hm : L.length ≤ 140737488355328) (hl : (flatR L).length ≤ 1048576) :
    Calls Try.prog 8 #[.slice ao L.length cap] w (EncPost w (flatR L)) := by
  have H := Lib.hid h
  clear h
  go_enter Try.func8, Try.ntmps8
  go_wp2_with fail
  go_loopw [4, 10] (fun s4 s10 wr => wr = w ∧ ∃ k : Nat, s10 = .int .i64 k ∧ s4 = .int .i64 ((flatR (L.take k)).length : Nat) ∧ k ≤ L.length) (fun _ s10 _ => L.length - (intOf s10).toNat)
  case atStart => exact ⟨rfl, 0, rfl, rfl, by omega⟩
  case round =>
    obtain ⟨rfl, k, rfl, rfl, hk⟩ := hrel
    have h1 := flatR_take_le L k
    obtain ⟨n, hn⟩ : ∃ n, n = (flatR (L.take k)).length := ⟨_, rfl⟩
    rw [← hn] at h1 ⊢
    by_cases hlt : k < L.length
    · obtain ⟨b, off, rfl, hb, -, hr⟩ := H.out (by omega)
      have hra := hr k hlt
      obtain ⟨ro, rc, rb, hrr⟩ : ∃ ro rc rb, (⟨ro, rc, rb⟩ : RowR) = L[k] := ⟨_, _, _, rfl⟩
      rw [← hrr] at hra
      have c0 := hra.c
      simp only at c0
      have h2 := flatR_take_next L k hlt
      have h3 := flatR_take_le L (k + 1)
      have h4 : n + rb.length = (flatR (L.take (k + 1))).length := by rw [h2, List.length_append, ← hn, ← hrr]
      have H4 := Lib.hid h4
      have h5 : n + rb.length ≤ 1048576 := by omega
      clear h2 h3 h4 hrr hra hr hn
      go_wp2_with fail
      go_roundw
      case rel => exact ⟨by first | rfl | trivial, k + 1, by go_num, by rw [← H4.out]; go_num, by omega⟩
      case measure => simp [intOf]; omega
    · have hkL : L.take k = L := List.take_of_length_le (by omega)
      rw [hkL] at hn
      obtain ⟨p, hp⟩ : ∃ p, p = flatR L := ⟨_, rfl⟩
      rw [← hp] at hn hl ⊢
      have Hn := Lib.hid hn
      have Hp := Lib.hid hp
      have hn2 : n ≤ 1048576 := by omega
      clear hkL hn hp h1
      go_wp2_with fail
      refine (headOf_any n _ (by omega)).mono ?_
      rintro e w1 ⟨ho, hc1, rfl, h1, b1⟩
      have H1 := Lib.hid h1.sl
      have B1 := Lib.hid b1
      have s1 := b1.size
      have HR := Lib.hid (H.out.grow b1)
      clear h1 b1
      go_wp2_with fail
      refine (join_any ao cap L D _ HR.out hc hm (by rw [← Hp.out]; omega)).mono ?_
      rintro e w2 ⟨bo, bc, rfl, h2, b2⟩
      rw [← Hp.out] at h2 ⊢
      have H2 := Lib.hid h2.sl
      have H12 := Lib.hid (H1.out.grow b2)
      have B2 := Lib.hid (B1.out.trans (b2.mono s1))
      have s2 := B2.out.size
      clear h2 b2 H1 B1 HR
      go_wp2_with fail
      refine (join_two H12.out H2.out 22 _ rfl (by rw [headB_length]; omega)).mono ?_
      rintro e w3 ⟨co, cc, rfl, h3, b3⟩
      have hlen : (headB n ++ p).length = n + 8 := by rw [List.length_append, headB_length, ← Hn.out]; omega
      obtain ⟨q, hq⟩ : ∃ q, q = headB n ++ p := ⟨_, rfl⟩
      rw [← hq] at h3 hlen ⊢
      have Hq := Lib.hid hq
      have Hlen := Lib.hid hlen
      have H3 := Lib.hid h3.sl
      have B3 := Lib.hid (B2.out.trans (b3.mono s2))
      have s3 := B3.out.size
      have hsl := sumOf_lt q
      clear h3 b3 H12 H2 B2 hq hlen
      go_wp2_with fail
      refine (sum_one H3.out 22 _ rfl).mono ?_
      rintro e w4 ⟨rfl, rfl⟩
      go_wp2_with fail
      refine (qframe.four_any _ _ hsl).mono ?_
      rintro e w4 ⟨rfl, h4, b4⟩
      simp only [World.alloc, Array.size_push] at h4
      have H4 := Lib.hid h4.sl
      have b4' := (below_allocF w3 (.cells #[.slice co q.length cc] 22)).trans (b4.mono (by simp))
      have B4 := Lib.hid (B3.out.trans (b4'.mono s3))
      have H34 := Lib.hid (H3.out.grow b4')
      have s4 := B4.out.size
      clear h4 b4 b4' H3 B3
      go_wp2_with fail
      refine (join_two H34.out H4.out 22 _ rfl (by rw [Hlen.out, fourB_length]; omega)).mono ?_
      rintro e w5 ⟨fo, fc, rfl, h5, b5⟩
      have he : q ++ fourB (sumOf q) = frameB p := by rw [Hq.out, Hn.out]; rfl
      rw [he] at h5 ⊢
      have H5 := Lib.hid (ownC_weak h5 s4)
      have B5 := Lib.hid (B4.out.trans (b5.mono s4))
      clear h5 b5 he
      go_wp2_with fail
      go_ret2
      obtain rfl := Hp.out
      exact ⟨fo, fc, rfl, H5.out, B5.out⟩
end Go.Proofs.Ytgbhbhmjolihnaa
