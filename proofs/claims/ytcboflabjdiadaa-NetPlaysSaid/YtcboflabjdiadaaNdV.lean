/- does: Give. -/
import Derived.Test.YtcboflabjdiadaaTk
namespace Go.Proofs.Ytcboflabjdiadaa
open Go.RowKit

theorem msg_cells {B : Nat} {w : World} {f t s : Value} {ty : TypeId} (h : (thObj B (.cells #[f, t, s] ty)).T w) :
    w.cell? ⟨B, 0, none⟩ = some f ∧ w.cell? ⟨B, 1, none⟩ = some t ∧ w.cell? ⟨B, 2, none⟩ = some s ∧ B < w.heap.size := by
  have hc := (cells_of_obj h).1
  exact ⟨hc 0, hc 1, hc 2, lt_of_block h⟩
set_option maxRecDepth 20000 in
set_option maxHeartbeats 4000000 in
theorem does_Give (W w : World) (p x : Nat) (C : List Ct) (R : List Th) (n m : Int) (y : UInt8) (mo : Option Addr) (ml mc : Nat) (h : Both W w p x C C R) :
    Calls Try.prog 21 #[.pointer (some ⟨p, 0, none⟩), .pointer (some ⟨x, 0, none⟩), .agg #[.int .i64 2, .int .i64 n, .int .i64 m, .int .u8 (y.toNat : Int), .slice mo ml mc]] w fun e w' => e = .returned (.bool true) ∧ Both W w' p x (C.eraseIdx (pickOf C.length n)) (C.eraseIdx (pickOf C.length n)) R := by
  have H := Lib.hid h
  clear h
  go_enter Try.func21, Try.ntmps21
  go_wp2_with fail
  refine calls_name fun wa hwa => ?_
  have HB : Hid (Both W wa p x C C (thObj w.heap.size (actO (.int .i64 2) (.int .i64 n) (.int .i64 m) (.int .u8 (y.toNat : Int)) mo ml mc) :: R)) := by rw [hwa]; exact Lib.hid (H.out.obj _)
  obtain ⟨B, hB⟩ : ∃ B, B = w.heap.size := ⟨_, rfl⟩
  rw [← hB] at HB ⊢
  clear hwa hB H
  obtain ⟨C', hC'⟩ : ∃ C', C' = C.eraseIdx (pickOf C.length n) := ⟨_, rfl⟩
  have hg := giveU HB.out n
  have hrg : ∀ w2 R2, Both W w2 p x C' C R2 → Calls Try.prog 30 #[.pointer (some ⟨x, 0, none⟩), .int .i64 n] w2 (GvP W p x C' (C.eraseIdx (pickOf C.length n)) R2 (gvR C n)) := fun w2 R2 hb => rgiveU hb n
  rw [← hC'] at hg hrg
  have HCe := Lib.hid hC'
  obtain ⟨f, t, bs, b, hr⟩ : ∃ f t bs b, gvR C n = (f, t, bs, b) := ⟨_, _, _, _, rfl⟩
  rw [hr] at hg hrg
  have Hrg := Lib.hid hrg
  clear hrg hr hC'
  refine hg.mono ?_
  rintro e w1 ⟨ao, cap, rfl, hl, hB1⟩
  obtain ⟨o0, o1, o2, o3, o4, hBs⟩ := act_cells (hB1.mem (List.mem_cons_of_mem _ List.mem_cons_self))
  have HB1 := Lib.hid hB1
  clear hg hB1 HB
  dsimp only at hl ⊢
  go_wp2_with fail
  refine calls_name fun wb hwb => ?_
  have HB2 : Hid (Both W wb p x C' C (thObj w1.heap.size (.cells #[.int .i64 f, .int .i64 t, .slice ao bs.length cap] 35) :: thOwn W.heap.size ao cap bs :: thObj B (actO (.int .i64 2) (.int .i64 n) (.int .i64 m) (.int .u8 (y.toNat : Int)) mo ml mc) :: R)) := by rw [hwb]; exact Lib.hid (HB1.out.obj _)
  obtain ⟨Q, hQ⟩ : ∃ Q, Q = w1.heap.size := ⟨_, rfl⟩
  rw [← hQ] at HB2 ⊢
  clear hwb hQ HB1 o0 o1 o2 o3 o4 hBs
  refine (Hrg.out _ _ HB2.out).mono ?_
  rintro e w2 ⟨ao2, cap2, rfl, -, hB3⟩
  have HB3 := Lib.hid hB3
  clear hB3 HB2 Hrg
  dsimp only
  obtain ⟨q0, q1, q2, hQs⟩ := msg_cells (HB3.out.mem (List.mem_cons_of_mem _ List.mem_cons_self))
  go_wp2_with fail
  refine calls_name fun wc hwc => ?_
  have HB4 : Hid (Both W wc p x C' C' (thObj w2.heap.size (.cells #[.int .i64 f, .int .i64 t, .slice ao2 bs.length cap2] 35) :: thOwn W.heap.size ao2 cap2 bs :: thObj Q (.cells #[.int .i64 f, .int .i64 t, .slice ao bs.length cap] 35) :: thOwn W.heap.size ao cap bs :: thObj B (actO (.int .i64 2) (.int .i64 n) (.int .i64 m) (.int .u8 (y.toNat : Int)) mo ml mc) :: R)) := by rw [hwc]; exact Lib.hid (HB3.out.obj _)
  clear hwc q0 q1 q2 hQs HB3
  have hO1 : OwnB wc W.heap.size ao2 cap2 bs := HB4.out.mem (List.mem_cons_of_mem _ List.mem_cons_self)
  have hO2 : OwnB wc W.heap.size ao cap bs := HB4.out.mem (t := thOwn W.heap.size ao cap bs) (by simp)
  refine (message_any f t ao cap bs f t ao2 cap2 bs wc hO2.at hO1.at (by omega) (by omega) true (by simp)).mono ?_
  rintro e w3 ⟨rfl, hb3⟩
  have HB5 := Lib.hid ((HB4.out.grow hb3).perm (R' := thOwn W.heap.size ao cap bs :: thObj w2.heap.size (.cells #[.int .i64 f, .int .i64 t, .slice ao2 bs.length cap2] 35) :: thOwn W.heap.size ao2 cap2 bs :: thObj Q (.cells #[.int .i64 f, .int .i64 t, .slice ao bs.length cap] 35) :: thObj B (actO (.int .i64 2) (.int .i64 n) (.int .i64 m) (.int .u8 (y.toNat : Int)) mo ml mc) :: R) (List.perm_middle (l₁ := [_, _, _])))
  obtain ⟨q0, q1, q2, hQs⟩ := msg_cells (HB5.out.mem (t := thObj Q (.cells #[.int .i64 f, .int .i64 t, .slice ao bs.length cap] 35)) (by simp))
  clear hO1 hO2 hb3 HB4
  have hbb : (b == b) = true := by simp
  go_wp2_with fail
  have hO : OwnB w3 W.heap.size ao cap bs := HB5.out.mem List.mem_cons_self
  refine (spoil_at bs.length ao cap W.heap.size bs w3 hO rfl HB5.out.b.size hl).mono ?_
  rintro e w4 ⟨rfl, hk⟩
  have HB6 := Lib.hid (HB5.out.lose hk).drop.drop.drop.drop
  clear hk hO HB5 q0 q1 q2 hQs
  go_wp2_with fail
  go_ret
  exact ⟨rfl, by rw [← HCe.out]; exact HB6.out⟩
end Go.Proofs.Ytcboflabjdiadaa
