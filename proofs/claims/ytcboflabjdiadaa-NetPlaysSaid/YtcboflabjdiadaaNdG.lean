/- Give, over both Nets. -/
import Derived.Test.YtcboflabjdiadaaNdB
namespace Go.Proofs.Ytcboflabjdiadaa
open Go.RowKit

def GivB (W : World) (p x : Nat) (c : Ct) (C D : List Ct) (R : List Th) (e : Ending) (w' : World) : Prop := ∃ ao cap, e = .returned (.tuple #[.agg #[.int .i64 c.1, .int .i64 c.2.1, .slice ao c.2.2.1.length cap], .bool true]) ∧ c.2.2.1.length ≤ 140737488351232 ∧ Both W w' p x C D (thOwn W.heap.size ao cap c.2.2.1 :: R)
theorem give_b {W w : World} {p x : Nat} {C D : List Ct} {R : List Th} (h : Both W w p x C D R) (pick : Int) (i : Nat) (hi : i < C.length) (hpi : i = pickOf C.length pick) :
    Calls Try.prog 13 #[.pointer (some ⟨p, 0, none⟩), .int .i64 pick] w (GivB W p x C[i] (C.eraseIdx i) D R) := by
  obtain ⟨L, hN, hb⟩ := h.net
  refine (give_ct hN pick i hi hpi).mono ?_
  rintro e w' ⟨ao, cap, rfl, hl, hN'⟩
  exact ⟨ao, cap, rfl, hl, hb _ _ [_] hN'⟩
theorem rgive_b {W w : World} {p x : Nat} {C D : List Ct} {R : List Th} (h : Both W w p x C D R) (pick : Int) (i : Nat) (hi : i < D.length) (hpi : i = pickOf D.length pick) :
    Calls Try.prog 30 #[.pointer (some ⟨x, 0, none⟩), .int .i64 pick] w (GivB W p x D[i] C (D.eraseIdx i) R) := by
  obtain ⟨L, hN, hb⟩ := h.ref
  refine (rgive_ct hN pick i hi hpi).mono ?_
  rintro e w' ⟨ao, cap, rfl, hl, hN'⟩
  exact ⟨ao, cap, rfl, hl, hb _ _ [_] hN'⟩
theorem giveno_b {W w : World} {p x : Nat} {D : List Ct} {R : List Th} (h : Both W w p x [] D R) (pick : Int) :
    Calls Try.prog 13 #[.pointer (some ⟨p, 0, none⟩), .int .i64 pick] w fun e w' => e = .returned (.tuple #[zM, .bool false]) ∧ Both W w' p x [] D R := by
  obtain ⟨L, hN, hb⟩ := h.net
  refine (give_none _ pick w (picked_none_ct hN pick)).mono ?_
  rintro e w' ⟨rfl, hg⟩
  exact ⟨rfl, h.grow hg⟩
theorem rgiveno_b {W w : World} {p x : Nat} {C : List Ct} {R : List Th} (h : Both W w p x C [] R) (pick : Int) :
    Calls Try.prog 30 #[.pointer (some ⟨x, 0, none⟩), .int .i64 pick] w fun e w' => e = .returned (.tuple #[zM, .bool false]) ∧ Both W w' p x C [] R := by
  obtain ⟨L, hN, hb⟩ := h.ref
  refine (rgivenone_ct hN pick).mono ?_
  rintro e w' ⟨rfl, hN'⟩
  exact ⟨rfl, hb _ _ [] hN'⟩
theorem send_b {W w : World} {p x : Nat} {C D : List Ct} {R : List Th} (h : Both W w p x C D R) (mo : Option Addr) (mc : Nat) (M : List Ms) (hM : ∀ w' X, St W w' (X ++ R) → MsAt w' mo M) (hMm : M.length ≤ 9223372036854775807) (k : Nat) (hk : k = M.length) (z : Nat) (hz : z = fits C.length k) :
    Calls Try.prog 11 #[.pointer (some ⟨p, 0, none⟩), .slice mo k mc] w fun e w' => e = .returned (.int .i64 z) ∧ Both W w' p x (C ++ (M.take z).map ct) D R := by
  obtain ⟨L, hN, hb⟩ := h.net
  refine (send_ct hN mo mc M (fun w' X hS => hM w' (X ++ L) (by rw [List.append_assoc]; exact hS)) hMm k hk z hz).mono ?_
  rintro e w' ⟨rfl, hN'⟩
  exact ⟨rfl, hb _ _ [] hN'⟩
theorem rsend_b {W w : World} {p x : Nat} {C D : List Ct} {R : List Th} (h : Both W w p x C D R) (mo : Option Addr) (mc : Nat) (M : List Ms) (hM : ∀ w' X, St W w' (X ++ R) → MsAt w' mo M) (hMm : M.length ≤ 9223372036854775807) (k : Nat) (hk : k = M.length) (z : Nat) (hz : z = fits D.length k) :
    Calls Try.prog 28 #[.pointer (some ⟨x, 0, none⟩), .slice mo k mc] w fun e w' => e = .returned (.int .i64 z) ∧ Both W w' p x C (D ++ (M.take z).map ct) R := by
  obtain ⟨L, hN, hb⟩ := h.ref
  refine (rsend_ct hN mo mc M (fun w' X hS => hM w' (X ++ L) (by rw [List.append_assoc]; exact hS)) hMm k hk z hz).mono ?_
  rintro e w' ⟨rfl, hN'⟩
  exact ⟨rfl, hb _ _ [] hN'⟩
end Go.Proofs.Ytcboflabjdiadaa
