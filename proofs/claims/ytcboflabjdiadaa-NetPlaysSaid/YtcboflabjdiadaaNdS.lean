/- does: Spoil. -/
import Derived.Test.YtcboflabjdiadaaTk
namespace Go.Proofs.Ytcboflabjdiadaa
open Go.RowKit

set_option maxRecDepth 20000 in
set_option maxHeartbeats 4000000 in
theorem does_Spoil (W w : World) (p x : Nat) (C : List Ct) (R : List Th) (n m : Int) (y : UInt8) (mo : Option Addr) (ml mc : Nat) (h : Both W w p x C C R) :
    Calls Try.prog 21 #[.pointer (some ⟨p, 0, none⟩), .pointer (some ⟨x, 0, none⟩), .agg #[.int .i64 5, .int .i64 n, .int .i64 m, .int .u8 (y.toNat : Int), .slice mo ml mc]] w fun e w' => e = .returned (.bool true) ∧ Both W w' p x (spC C n m y).2 (spC C n m y).2 R := by
  have H := Lib.hid h
  clear h
  go_enter Try.func21, Try.ntmps21
  go_wp2_with fail
  refine wp_name fun wa hwa => ?_
  have HB : Hid (Both W wa p x C C (thObj w.heap.size (actO (.int .i64 5) (.int .i64 n) (.int .i64 m) (.int .u8 (y.toNat : Int)) mo ml mc) :: R)) := by rw [hwa]; exact Lib.hid (H.out.obj _)
  obtain ⟨B, hB⟩ : ∃ B, B = w.heap.size := ⟨_, rfl⟩
  rw [← hB] at HB ⊢
  have HB' := Lib.hid (HB.out.grow (w' := wa.drew) (Below.refl _ _).drew)
  clear hwa hB H HB
  have HB := HB'
  clear HB'
  have HC := Lib.hid (actC_of (HB.out.mem List.mem_cons_self))
  refine wp_region_noPanic ?_
  refine wp_region_held (S := ActC B (.int .i64 5) (.int .i64 n) (.int .i64 m) (.int .u8 (y.toNat : Int)) mo ml mc) (by kernel_rfl) ?_
  change wpAnyH _ _ _ _ _ _ _ _ (World.drew _)
  (refine takeD (i := 0) (v := ?v0) 144 rfl rfl (by kernel_rfl) (by kernel_rfl) (by kernel_rfl) (fun _ _ _ h => h) (Or.inl ⟨by rfl, ?hy0⟩) HC.out ?rest0; (case hy0 => (intro w hSw; (obtain ⟨t0, t1, t2, t3, t4, t5⟩ := hSw); go_simp; (try with_reducible rfl))); (try simp only [Act.put, List.setIfInBounds_toArray, List.set_cons_zero, List.set_cons_succ]))
  (refine takeD (i := 1) (v := ?v1) 145 rfl rfl (by kernel_rfl) (by kernel_rfl) (by kernel_rfl) (fun _ _ _ h => h) (Or.inl ⟨by rfl, ?hy1⟩) HC.out ?rest1; (case hy1 => (intro w hSw; (obtain ⟨t0, t1, t2, t3, t4, t5⟩ := hSw); go_simp; (try with_reducible rfl))); (try simp only [Act.put, List.setIfInBounds_toArray, List.set_cons_zero, List.set_cons_succ]))
  (refine takeD (i := 2) (v := ?v2) 146 rfl rfl (by kernel_rfl) (by kernel_rfl) (by kernel_rfl) (fun _ _ _ h => h) (Or.inl ⟨by rfl, ?hy2⟩) HC.out ?rest2; (case hy2 => (intro w hSw; (obtain ⟨t0, t1, t2, t3, t4, t5⟩ := hSw); go_simp; (try with_reducible rfl))); (try simp only [Act.put, List.setIfInBounds_toArray, List.set_cons_zero, List.set_cons_succ]))
  (refine takeD (i := 3) (v := ?v3) 147 rfl rfl (by kernel_rfl) (by kernel_rfl) (by kernel_rfl) (fun _ _ _ h => h) (Or.inl ⟨by rfl, ?hy3⟩) HC.out ?rest3; (case hy3 => (intro w hSw; (obtain ⟨t0, t1, t2, t3, t4, t5⟩ := hSw); go_simp; (try with_reducible rfl))); (try simp only [Act.put, List.setIfInBounds_toArray, List.set_cons_zero, List.set_cons_succ]))
  (refine takeD (i := 4) (v := ?v4) 148 rfl rfl (by kernel_rfl) (by kernel_rfl) (by kernel_rfl) (fun _ _ _ h => h) (Or.inl ⟨by rfl, ?hy4⟩) HC.out ?rest4; (case hy4 => (intro w hSw; (obtain ⟨t0, t1, t2, t3, t4, t5⟩ := hSw); go_simp; (try with_reducible rfl))); (try simp only [Act.put, List.setIfInBounds_toArray, List.set_cons_zero, List.set_cons_succ]))
  (refine takeD (i := 5) (v := ?v5) 149 rfl rfl (by kernel_rfl) (by kernel_rfl) (by kernel_rfl) (fun _ _ _ h => h) (Or.inl ⟨by rfl, ?hy5⟩) HC.out ?rest5; (case hy5 => (intro w hSw; (obtain ⟨t0, t1, t2, t3, t4, t5⟩ := hSw); go_simp; (try with_reducible rfl))); (try simp only [Act.put, List.setIfInBounds_toArray, List.set_cons_zero, List.set_cons_succ]))
  (refine takeD (i := 6) (v := ?v6) 150 rfl rfl (by kernel_rfl) (by kernel_rfl) (by kernel_rfl) (fun _ _ _ h => h) (Or.inl ⟨by rfl, ?hy6⟩) HC.out ?rest6; (case hy6 => (intro w hSw; (obtain ⟨t0, t1, t2, t3, t4, t5⟩ := hSw); go_simp; (try with_reducible rfl))); (try simp only [Act.put, List.setIfInBounds_toArray, List.set_cons_zero, List.set_cons_succ]))
  (refine takeD (i := 8) (v := ?v8) 152 rfl rfl (by kernel_rfl) (by kernel_rfl) (by kernel_rfl) (fun _ _ _ h => h) (Or.inl ⟨by rfl, ?hy8⟩) HC.out ?rest8; (case hy8 => (intro w hSw; (obtain ⟨t0, t1, t2, t3, t4, t5⟩ := hSw); go_simp; (try with_reducible rfl))); (try simp only [Act.put, List.setIfInBounds_toArray, List.set_cons_zero, List.set_cons_succ]))
  (refine takeD (i := 9) (v := ?v9) 153 rfl rfl (by kernel_rfl) (by kernel_rfl) (by kernel_rfl) (fun _ _ _ h => h) (Or.inl ⟨by rfl, ?hy9⟩) HC.out ?rest9; (case hy9 => (intro w hSw; (obtain ⟨t0, t1, t2, t3, t4, t5⟩ := hSw); go_simp; (try with_reducible rfl))); (try simp only [Act.put, List.setIfInBounds_toArray, List.set_cons_zero, List.set_cons_succ]))
  (refine takeD (i := 10) (v := ?v10) 154 rfl rfl (by kernel_rfl) (by kernel_rfl) (by kernel_rfl) (fun _ _ _ h => h) (Or.inl ⟨by rfl, ?hy10⟩) HC.out ?rest10; (case hy10 => (intro w hSw; (obtain ⟨t0, t1, t2, t3, t4, t5⟩ := hSw); go_simp; (try with_reducible rfl))); (try simp only [Act.put, List.setIfInBounds_toArray, List.set_cons_zero, List.set_cons_succ]))
  (refine takeD (i := 11) (v := ?v11) 155 rfl rfl (by kernel_rfl) (by kernel_rfl) (by kernel_rfl) (fun _ _ _ h => h) (Or.inl ⟨by rfl, ?hy11⟩) HC.out ?rest11; (case hy11 => (intro w hSw; (obtain ⟨t0, t1, t2, t3, t4, t5⟩ := hSw); go_simp; (try with_reducible rfl))); (try simp only [Act.put, List.setIfInBounds_toArray, List.set_cons_zero, List.set_cons_succ]))
  (refine takeD (i := 12) (v := ?v12) 156 rfl rfl (by kernel_rfl) (by kernel_rfl) (by kernel_rfl) (fun _ _ _ h => h) (Or.inl ⟨by rfl, ?hy12⟩) HC.out ?rest12; (case hy12 => (intro w hSw; (obtain ⟨t0, t1, t2, t3, t4, t5⟩ := hSw); go_simp; (try with_reducible rfl))); (try simp only [Act.put, List.setIfInBounds_toArray, List.set_cons_zero, List.set_cons_succ]))
  (refine takeD (i := 13) (v := ?v13) 157 rfl rfl (by kernel_rfl) (by kernel_rfl) (by kernel_rfl) (fun _ _ _ h => h) (Or.inl ⟨by rfl, ?hy13⟩) HC.out ?rest13; (case hy13 => (intro w hSw; (obtain ⟨t0, t1, t2, t3, t4, t5⟩ := hSw); go_simp; (try with_reducible rfl))); (try simp only [Act.put, List.setIfInBounds_toArray, List.set_cons_zero, List.set_cons_succ]))
  (refine takeD (i := 14) (v := ?v14) 158 rfl rfl (by kernel_rfl) (by kernel_rfl) (by kernel_rfl) (fun _ _ _ h => h) (Or.inl ⟨by rfl, ?hy14⟩) HC.out ?rest14; (case hy14 => (intro w hSw; (obtain ⟨t0, t1, t2, t3, t4, t5⟩ := hSw); go_simp; (try with_reducible rfl))); (try simp only [Act.put, List.setIfInBounds_toArray, List.set_cons_zero, List.set_cons_succ]))
  (refine wpAnyH_all (rs := [7]) (by kernel_rfl) (by simp) (fun i' hi' => ?_); (obtain rfl : i' = 7 := by simpa using hi'); (refine wpOp_step rfl (fun K' hK' => ?_)); go_simp; (refine (spoil_b HB.out n m y).mono ?_); (rintro e w9 ⟨rfl, hB9⟩); (have HC9 := Lib.hid (actC_of (hB9.mem List.mem_cons_self))); (have HB9 := Lib.hid hB9); (refine hK' _ _ ⟨HC9.out, ?_⟩); (clear hK' K' hB9 HB HC); (have HB := HB9); (have HC := HC9); (clear HB9 HC9); (try simp only [Act.put, List.setIfInBounds_toArray, List.set_cons_zero, List.set_cons_succ]))
  (refine wpAnyH_all (rs := [15]) (by kernel_rfl) (by simp) (fun i' hi' => ?_); (obtain rfl : i' = 15 := by simpa using hi'); (refine wpOp_step rfl (fun K' hK' => ?_)); go_simp; (refine (rspoil_b HB.out n m y).mono ?_); (rintro e w9 ⟨rfl, hB9⟩); (have HC9 := Lib.hid (actC_of (hB9.mem List.mem_cons_self))); (have HB9 := Lib.hid hB9); (refine hK' _ _ ⟨HC9.out, ?_⟩); (clear hK' K' hB9 HB HC); (have HB := HB9); (have HC := HC9); (clear HB9 HC9); (try simp only [Act.put, List.setIfInBounds_toArray, List.set_cons_zero, List.set_cons_succ]))
  (refine takeD (i := 16) (v := ?v16) 160 rfl rfl (by kernel_rfl) (by kernel_rfl) (by kernel_rfl) (fun _ _ _ h => h) (Or.inl ⟨by rfl, ?hy16⟩) HC.out ?rest16; (case hy16 => (intro w hSw; (obtain ⟨t0, t1, t2, t3, t4, t5⟩ := hSw); go_simp; (try with_reducible rfl))); (try simp only [Act.put, List.setIfInBounds_toArray, List.set_cons_zero, List.set_cons_succ]))
  (refine takeD (i := 17) (v := ?v17) 6 rfl rfl (by kernel_rfl) (by kernel_rfl) (by kernel_rfl) (fun _ _ _ h => h) (Or.inl ⟨by rfl, ?hy17⟩) HC.out ?rest17; (case hy17 => (intro w hSw; (obtain ⟨t0, t1, t2, t3, t4, t5⟩ := hSw); go_simp; (try with_reducible rfl))); (try simp only [Act.put, List.setIfInBounds_toArray, List.set_cons_zero, List.set_cons_succ]))
  refine wpAnyH_done (by kernel_rfl) ?_ _
  refine NoPanic.normal ?_
  go_wp2_with fail
  go_ret
  exact ⟨rfl, HB.out.drop⟩
end Go.Proofs.Ytcboflabjdiadaa
