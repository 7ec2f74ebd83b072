/- does: a kind that is none. -/
import Derived.Test.YtcboflabjdiadaaNdB
namespace Go.Proofs.Ytcboflabjdiadaa
open Go.RowKit

set_option maxRecDepth 20000 in
theorem does_other (W w : World) (p x : Nat) (C : List Ct) (R : List Th) (k n m : Int) (y : UInt8) (mo : Option Addr) (ml mc : Nat) (h : Both W w p x C C R) (hk : (k == 1) = false) (hk2 : (k == 2) = false) (hk3 : (k == 3) = false) (hk4 : (k == 4) = false) (hk5 : (k == 5) = false) (hk6 : (k == 6) = false) :
    Calls Try.prog 21 #[.pointer (some ⟨p, 0, none⟩), .pointer (some ⟨x, 0, none⟩), .agg #[.int .i64 k, .int .i64 n, .int .i64 m, .int .u8 (y.toNat : Int), .slice mo ml mc]] w fun e w' => e = .returned (.bool true) ∧ Both W w' p x C C R := by
  have H := Lib.hid h
  have n1 : ¬ k = 1 := by simpa using hk
  have n2 : ¬ k = 2 := by simpa using hk2
  have n3 : ¬ k = 3 := by simpa using hk3
  have n4 : ¬ k = 4 := by simpa using hk4
  have n5 : ¬ k = 5 := by simpa using hk5
  have n6 : ¬ k = 6 := by simpa using hk6
  clear h
  go_enter Try.func21, Try.ntmps21
  go_wp2_with fail
  go_ret
  exact ⟨rfl, H.out.grow (by repeat (first | with_reducible exact Below.refl _ _ | with_reducible assumption | with_reducible refine Below.drew ?_ | with_reducible refine below_drawn ?_ | with_reducible refine Below.alloc ?_ (by first | omega | (simp; done) | (simp; omega) | (simp at *; omega)) _ | with_reducible refine Below.setCell ?_ (by first | omega | (simp; done) | (simp; omega) | (simp at *; omega)) _ | with_reducible refine Below.trans ?_ (Below.mono (by assumption) (by first | omega | (simp; done) | (simp; omega) | (simp at *; omega)))))⟩
end Go.Proofs.Ytcboflabjdiadaa
