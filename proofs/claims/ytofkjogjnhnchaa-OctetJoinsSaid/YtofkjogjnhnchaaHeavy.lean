/- The contract of heavyRows. -/
import Derived.Test.YtofkjogjnhnchaaOpenR
namespace Go.Proofs.Ytofkjogjnhnchaa
open Go.RowKit

theorem flatR_take (L : List RowR) (k : Nat) (h : k < L.length) : (flatR (L.take (k + 1))).length = (flatR (L.take k)).length + L[k].bs.length := by
  rw [List.take_succ_eq_append_getElem h]
  simp only [flatR, List.flatMap_append, List.length_append, List.flatMap_cons, List.flatMap_nil, List.append_nil]
set_option maxHeartbeats 2000000 in
theorem heavy_any (ao : Option Addr) (cap : Nat) (L : List RowR) (D : Nat → Prop) (w : World) (hr : RsAt w D ao L) (hm : L.length ≤ 9223372036854775807) :
    Calls Try.prog 21 #[.slice ao L.length cap] w fun e w' => (e = .returned (.bool true) ∨ (e = .returned (.bool false) ∧ 3 * L.length + (flatR L).length ≤ 4000)) ∧ w' = w := by
  have Hr := Lib.hid hr
  clear hr
  go_enter Try.func21, Try.ntmps21
  go_wp2_with fail
  go_loopw [4, 3] (fun s4 s3 wr => wr = w ∧ ∃ k n : Nat, s4 = .int .i64 k ∧ s3 = .int .i64 n ∧ k ≤ L.length ∧ n ≤ 4000 ∧ Hid (n = 3 * k + (flatR (L.take k)).length)) (fun s4 _ _ => L.length - (intOf s4).toNat)
  case atStart => exact ⟨rfl, 0, 0, rfl, rfl, by omega, by omega, rfl⟩
  case round =>
    obtain ⟨rfl, k, n, rfl, rfl, hk, hn, hst⟩ := hrel
    by_cases hlt : (k : Int) < L.length
    · obtain ⟨b, off, rfl, hb, -, hrow⟩ := Hr.out (by omega)
      have hra := hrow k (by omega)
      obtain ⟨ro, rc, rb, hL⟩ : ∃ ro rc rb, (⟨ro, rc, rb⟩ : RowR) = L[k]'(by omega) := ⟨_, _, _, rfl⟩
      rw [← hL] at hra
      have c0 : wr.cell? ⟨b, off + k, none⟩ = some (.slice ro rb.length rc) := hra.c
      have hle : rb.length ≤ rc := hra.le
      have hcm : rc ≤ 9223372036854775807 := hra.cm
      have hft := flatR_take L k (by omega)
      rw [← hL] at hft
      have Hft : Hid (3 * (k + 1) + (flatR (L.take (k + 1))).length = n + 3 + rb.length) := by have := hst.out; unfold Hid; simp only at hft; omega
      clear hra hrow hL hft hst
      by_cases hbig : (4000 : Int) < rb.length
      · go_wp2_with fail
        go_ret
        exact ⟨.inl rfl, rfl⟩
      · by_cases hbn : (4000 : Int) < n + 3 + rb.length
        · go_wp2_with fail
          go_ret
          exact ⟨.inl rfl, rfl⟩
        · go_wp2_with fail
          go_roundw
          case rel => exact ⟨trivial, k + 1, n + 3 + rb.length, by go_num, by go_num, by omega, by omega, Hft.out.symm⟩
          case measure => simp [intOf]; omega
    · go_wp2_with fail
      go_ret
      refine ⟨.inr ⟨rfl, ?_⟩, rfl⟩
      have h1 := hst.out
      rw [List.take_of_length_le (by omega)] at h1
      omega
end Go.Proofs.Ytofkjogjnhnchaa
