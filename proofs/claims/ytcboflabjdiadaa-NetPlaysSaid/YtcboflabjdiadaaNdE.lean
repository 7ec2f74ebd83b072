/- does: Twice, Late, Spoil. -/
import Derived.Test.YtcboflabjdiadaaNdB
namespace Go.Proofs.Ytcboflabjdiadaa
open Go.RowKit

set_option maxRecDepth 20000 in
set_option maxHeartbeats 4000000 in
theorem does_Late (W w : World) (p x : Nat) (C : List Ct) (R : List Th) (n m : Int) (y : UInt8) (mo : Option Addr) (ml mc : Nat) (h : Both W w p x C C R) :
    Calls Try.prog 21 #[.pointer (some ⟨p, 0, none⟩), .pointer (some ⟨x, 0, none⟩), .agg #[.int .i64 4, .int .i64 n, .int .i64 m, .int .u8 (y.toNat : Int), .slice mo ml mc]] w fun e w' => e = .returned (.bool true) ∧ Both W w' p x (laC C n).2 (laC C n).2 R := by
  have H := Lib.hid h
  clear h
  go_enter Try.func21, Try.ntmps21
  go_wp2_with fail
  refine wp_name fun wa hwa => ?_
  have HB : Hid (Both W wa p x C C (thObj w.heap.size (actO (.int .i64 4) (.int .i64 n) (.int .i64 m) (.int .u8 (y.toNat : Int)) mo ml mc) :: R)) := by rw [hwa]; exact Lib.hid (H.out.obj _)
  obtain ⟨o0, o1, o2, o3, o4, hBs⟩ := act_cells (HB.out.mem List.mem_cons_self)
  obtain ⟨B, hB⟩ : ∃ B, B = w.heap.size := ⟨_, rfl⟩
  rw [← hB] at HB o0 o1 o2 o3 o4 hBs ⊢
  have HB' := Lib.hid (HB.out.grow (w' := wa.drew) (Below.refl _ _).drew)
  clear hwa hB H HB
  have HB := HB'
  clear HB'
  go_region_law (first | ((refine at_goN 12 _ _ (by rfl) ?_); go_simp; go_at_call 12; (refine (late_b HB.out n).mono ?_); (rintro e w9 ⟨rfl, hB9⟩); (obtain ⟨o0, o1, o2, o3, o4, hBs⟩ := act_cells (hB9.mem List.mem_cons_self)); (have HB9 := Lib.hid hB9); clear HB hB9; (have HB := HB9); clear HB9) | ((refine at_goN 32 _ _ (by rfl) ?_); go_simp; go_at_call 32; (refine (rlate_b HB.out n).mono ?_); (rintro e w9 ⟨rfl, hB9⟩); (obtain ⟨o0, o1, o2, o3, o4, hBs⟩ := act_cells (hB9.mem List.mem_cons_self)); (have HB9 := Lib.hid hB9); clear HB hB9; (have HB := HB9); clear HB9) | fail)
  all_goals
    go_wp2_with fail
    go_ret
    exact ⟨rfl, HB.out.drop⟩
set_option maxRecDepth 20000 in
set_option maxHeartbeats 4000000 in
theorem does_Twice (W w : World) (p x : Nat) (C : List Ct) (R : List Th) (n m : Int) (y : UInt8) (mo : Option Addr) (ml mc : Nat) (h : Both W w p x C C R) :
    Calls Try.prog 21 #[.pointer (some ⟨p, 0, none⟩), .pointer (some ⟨x, 0, none⟩), .agg #[.int .i64 3, .int .i64 n, .int .i64 m, .int .u8 (y.toNat : Int), .slice mo ml mc]] w fun e w' => e = .returned (.bool true) ∧ Both W w' p x (twC C n).2 (twC C n).2 R := by
  have H := Lib.hid h
  clear h
  go_enter Try.func21, Try.ntmps21
  go_wp2_with fail
  refine wp_name fun wa hwa => ?_
  have HB : Hid (Both W wa p x C C (thObj w.heap.size (actO (.int .i64 3) (.int .i64 n) (.int .i64 m) (.int .u8 (y.toNat : Int)) mo ml mc) :: R)) := by rw [hwa]; exact Lib.hid (H.out.obj _)
  obtain ⟨o0, o1, o2, o3, o4, hBs⟩ := act_cells (HB.out.mem List.mem_cons_self)
  obtain ⟨B, hB⟩ : ∃ B, B = w.heap.size := ⟨_, rfl⟩
  rw [← hB] at HB o0 o1 o2 o3 o4 hBs ⊢
  have HB' := Lib.hid (HB.out.grow (w' := wa.drew) (Below.refl _ _).drew)
  clear hwa hB H HB
  have HB := HB'
  clear HB'
  go_region_law (first | ((refine at_goN 17 _ _ (by rfl) ?_); go_simp; go_at_call 17; (refine (twice_b HB.out n).mono ?_); (rintro e w9 ⟨rfl, hB9⟩); (obtain ⟨o0, o1, o2, o3, o4, hBs⟩ := act_cells (hB9.mem List.mem_cons_self)); (have HB9 := Lib.hid hB9); clear HB hB9; (have HB := HB9); clear HB9) | ((refine at_goN 31 _ _ (by rfl) ?_); go_simp; go_at_call 31; (refine (rtwice_b HB.out n).mono ?_); (rintro e w9 ⟨rfl, hB9⟩); (obtain ⟨o0, o1, o2, o3, o4, hBs⟩ := act_cells (hB9.mem List.mem_cons_self)); (have HB9 := Lib.hid hB9); clear HB hB9; (have HB := HB9); clear HB9) | fail)
  all_goals
    go_wp2_with fail
    go_ret
    exact ⟨rfl, HB.out.drop⟩
end Go.Proofs.Ytcboflabjdiadaa
