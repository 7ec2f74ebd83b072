/- A zone that is split and merged again has the keys that it had, its ID, and a greater Epoch: the statement DirBack, for every key. -/
import Derived.Test.YtobnibdeimiinaaDKnown
import Derived.Test.YtobnibdeimiinaaOpen
import Derived.Test.YtobnibdeimiinaaRows
namespace Go.Proofs.Ytobnibdeimiinaa
open Go.RowKit Go.Joins

def bk (a : ByteArray) : Nat → Mp
  | 0 => firstM 8
  | 1 => ⟨2, 3, [⟨1, z0, z0, 8, 1, 1, 0, a, 2⟩]⟩
  | 2 => ⟨3, 3, [⟨1, z0, a, 8, 2, 0, 0, z0, 0⟩, ⟨2, a, z0, 8, 2, 0, 0, z0, 0⟩]⟩
  | 3 => ⟨4, 3, [⟨1, z0, a, 8, 2, 2, 0, z0, 2⟩, ⟨2, a, z0, 8, 2, 2, 0, z0, 1⟩]⟩
  | _ => ⟨5, 3, [⟨1, z0, z0, 8, 3, 0, 0, z0, 0⟩]⟩
theorem in_facts {a : ByteArray} (h : inB z0 z0 a = true) : 1 ≤ a.size ∧ a.size ≤ 16 ∧ a.toList ≠ [] := by
  unfold inB at h
  simp only [Bool.and_eq_true, decide_eq_true_eq] at h
  have h1 : 1 ≤ a.size := by omega
  refine ⟨h1, by omega, fun e => ?_⟩
  have : a.toList.length = a.size := by simp [ByteArray.toList_eq] 
  rw [e] at this
  simp at this
  omega
theorem cut0 {a : ByteArray} (h : inB z0 z0 a = true) : cutOk z0 z0 a = true := by
  obtain ⟨-, -, h3⟩ := in_facts h
  unfold cutOk leB
  rw [h]
  have : z0.toList = [] := by kernel_rfl
  rw [this, bl_nil]
  simp [h3]
theorem join0 {a : ByteArray} (h : inB z0 z0 a = true) : joinOk z0 a a z0 = true := by
  obtain ⟨h1, h2, h3⟩ := in_facts h
  have e : z0.toList = [] := by kernel_rfl
  rw [joinOk_iff]
  refine ⟨?_, ?_, h3, rfl⟩
  · rw [isB_iff, e]
    exact ⟨by decide, by omega, .inr (bl_of_nil h3)⟩
  · rw [isB_iff, e]
    exact ⟨by omega, by decide, .inl rfl⟩
theorem b1 {a : ByteArray} (h : inB z0 z0 a = true) : applyM [8] (bk a 0) ⟨1, 1, 0, 0, a⟩ = some (bk a 1) := by
  obtain ⟨h1, h2, h3⟩ := in_facts h
  have hc := cut0 h
  simp [applyM, mayC, bk, firstM, findZ, changeM, splitM, hc, h1, h2, pendN]
theorem b2 {a : ByteArray} : applyM [8] (bk a 1) ⟨4, 1, 1, 0, z0⟩ = some (bk a 2) := by kernel_rfl
theorem b3 {a : ByteArray} : applyM [8] (bk a 2) ⟨2, 1, 0, 0, z0⟩ = some (bk a 3) := by kernel_rfl
theorem b4 {a : ByteArray} : applyM [8] (bk a 3) ⟨4, 2, 2, 0, z0⟩ = none := by kernel_rfl
theorem b5 {a : ByteArray} (h : inB z0 z0 a = true) : applyM [8] (bk a 3) ⟨4, 1, 2, 0, z0⟩ = some (bk a 4) := by
  have hj := join0 h
  have : applyM [8] (bk a 3) ⟨4, 1, 2, 0, z0⟩ = some ⟨5, 3, [⟨1, sel (joinOk z0 a a z0) z0, sel (joinOk z0 a a z0) z0, 8, 3, 0, 0, z0, 0⟩]⟩ := by kernel_rfl
  rw [this, hj]; rfl
theorem bk_inv {a : ByteArray} (h : inB z0 z0 a = true) : Inv (bk a 1) ∧ Inv (bk a 2) ∧ Inv (bk a 3) := by
  have i1 := apply_inv in8 (show Inv (bk a 0) from first8) (b1 h)
  have i2 := apply_inv in8 i1 b2
  exact ⟨i1, i2, apply_inv in8 i2 b3⟩
set_option maxRecDepth 20000 in
set_option maxHeartbeats 2000000 in
theorem back_any (a : ByteArray) (w : World) : Calls Try.prog 4 #[.string a] w fun e w' => e = .returned (.bool true) ∧ Below w.heap.size w w' := by
  obtain ⟨ok, hok⟩ : ∃ ok, ok = inB z0 z0 a := ⟨_, rfl⟩
  have hin := fun w => satrapyref12_in z0 z0 a w
  rw [← hok] at hin
  simp only [z0] at hin
  have Hin := Lib.hid hin
  clear hin
  cases ok with
  | false =>
    clear hok
    go_enter Try.func4, Try.ntmps4
    go_wp2_with fail
    refine (Hin.out _).mono ?_
    rintro e w1 ⟨rfl, w1_b⟩
    have w1_le := w1_b.size
    go_wp2_with fail
    refine (known_any _).mono ?_
    rintro e w2 ⟨rfl, w2_b⟩
    have w2_c := w1_b.trans (w2_b.mono w1_le)
    clear w2_b
    go_wp2_with fail
    go_ret
    exact ⟨rfl, w2_c⟩
  | true =>
    have hI := bk_inv hok.symm
    have B1 := Lib.hid (b1 hok.symm)
    have B5 := Lib.hid (b5 hok.symm)
    have HI := Lib.hid hI
    clear hok hI
    go_enter Try.func4, Try.ntmps4
    go_wp2_with fail
    refine (Hin.out _).mono ?_
    rintro e w1 ⟨rfl, w1_b⟩
    have w1_le := w1_b.size
    have S0 := Lib.hid (((St.start w).grow w1_b).grow (below_allocO w1 (.cells #[.int .i64 8] 3)))
    have hia : Hid (IAtD (w1.alloc (.cells #[.int .i64 8] 3)) (some ⟨w1.heap.size, 0, none⟩) [8]) := iat_lit w1 _ rfl [8] 3 (0, 0)
    clear w1_b
    go_wp2_with fail
    refine (new_any S0.out (some ⟨w1.heap.size, 0, none⟩) 1 [8] hia.out (by decide)).mono ?_
    intro e w2 h1
    unfold NewPost at h1
    rw [if_pos (by decide +kernel)] at h1
    obtain ⟨p, g, zc, b, c', rfl, hS⟩ := h1
    have S1 := Lib.hid hS
    clear S0 hia hS
    go_wp2_with fail
    (refine (apply_at S1.out first8 (by decide) ⟨1, 1, 0, 0, a⟩ _ B1.out).mono ?_); (rintro e w3 ⟨g2, zc2, rfl, hS⟩); (have S2 : Hid (St w w3 (thDir 76 w.heap.size p g2 zc2 (bk a 1) (some ⟨b, 0, none⟩) 1 c' :: thInts w.heap.size b c' [8] :: [])) := hS); clear S1 hS; (go_wp2_with fail)
    (refine (apply_at S2.out HI.out.1 (by decide) ⟨4, 1, 1, 0, z0⟩ _ b2).mono ?_); (rintro e w4 ⟨g3, zc3, rfl, hS⟩); (have S3 : Hid (St w w4 (thDir 76 w.heap.size p g3 zc3 (bk a 2) (some ⟨b, 0, none⟩) 1 c' :: thInts w.heap.size b c' [8] :: [])) := hS); clear S2 hS; (go_wp2_with fail)
    (refine (apply_at S3.out HI.out.2.1 (by decide) ⟨2, 1, 0, 0, z0⟩ _ b3).mono ?_); (rintro e w5 ⟨g4, zc4, rfl, hS⟩); (have S4 : Hid (St w w5 (thDir 76 w.heap.size p g4 zc4 (bk a 3) (some ⟨b, 0, none⟩) 1 c' :: thInts w.heap.size b c' [8] :: [])) := hS); clear S3 hS; (go_wp2_with fail)
    (refine (apply_at S4.out HI.out.2.2 (by decide) ⟨4, 2, 2, 0, z0⟩ _ b4).mono ?_); (rintro e w6 ⟨g5, zc5, rfl, hS⟩); (have S5 : Hid (St w w6 (thDir 76 w.heap.size p g5 zc5 (bk a 3) (some ⟨b, 0, none⟩) 1 c' :: thInts w.heap.size b c' [8] :: [])) := hS); clear S4 hS; (go_wp2_with fail)
    (refine (apply_at S5.out HI.out.2.2 (by decide) ⟨4, 1, 2, 0, z0⟩ _ B5.out).mono ?_); (rintro e w7 ⟨g6, zc6, rfl, hS⟩); (have S6 : Hid (St w w7 (thDir 76 w.heap.size p g6 zc6 (bk a 4) (some ⟨b, 0, none⟩) 1 c' :: thInts w.heap.size b c' [8] :: [])) := hS); clear S5 hS; (go_wp2_with fail)
    refine (map_any S6.out.head (show 0 < 1 by decide) (show 1 ≤ 1000 by decide)).mono ?_
    rintro e w8 ⟨g8, c8, he, ho, hb⟩
    have he' : e = .returned (.agg #[.int .i64 5, .int .i64 3, .slice (some ⟨g8, 0, none⟩) 1 c8]) := he
    subst he'
    have n1 := ho.at.nine 0 (show 0 < 1 by decide) _ rfl
    obtain ⟨f1, f2, f3, f4⟩ := ho.facts
    have w8_b := S6.out.b.trans (hb.mono S6.out.b.size)
    have w8_le := w8_b.size
    have d0 : w8.cell? ⟨g8, 0, none⟩ = some (.int .i64 1) := n1.1
    have d1 : w8.cell? ⟨g8, 1, none⟩ = some (.string ⟨#[]⟩) := n1.2.1
    have d2 : w8.cell? ⟨g8, 2, none⟩ = some (.string ⟨#[]⟩) := n1.2.2.1
    have d3 : w8.cell? ⟨g8, 3, none⟩ = some (.int .i64 8) := n1.2.2.2.1
    have d4 : w8.cell? ⟨g8, 4, none⟩ = some (.int .i64 3) := n1.2.2.2.2.1
    have d5 : w8.cell? ⟨g8, 5, none⟩ = some (.int .i64 0) := n1.2.2.2.2.2.1
    have d6 : w8.cell? ⟨g8, 6, none⟩ = some (.int .i64 0) := n1.2.2.2.2.2.2.1
    have d7 : w8.cell? ⟨g8, 7, none⟩ = some (.string ⟨#[]⟩) := n1.2.2.2.2.2.2.2.1
    have d8 : w8.cell? ⟨g8, 8, none⟩ = some (.int .i64 0) := n1.2.2.2.2.2.2.2.2
    have c8n : (1 : Nat) ≤ c8 := f3
    clear he n1 ho hb S6 f1 f3
    go_wp2_with fail
    have w9_b := w8_b.alloc w8_le (.cells #[.int .i64 5, .int .i64 3, .slice (some ⟨g8, 0, none⟩) 1 c8] 30)
    refine (known_any _).mono ?_
    rintro e w9 ⟨rfl, hb9⟩
    have w9_c := w9_b.trans (hb9.mono w9_b.size)
    clear hb9 w9_b
    go_wp2_with fail
    go_ret
    exact ⟨rfl, w9_c⟩
namespace DirBackLift
open Go.ChangeShapes Go.WideShapes Go.ChangeAt Go.RowKit Go.Joins Go.Deep
open Go.ChangeMaps (open_string shut_string)

theorem own : ownKnob Try.prog.godebug = none := by kernel_rfl
theorem laidOut : laidOutB Try.prog = true := by kernel_rfl

set_option maxHeartbeats 1000000 in
set_option maxRecDepth 100000 in
theorem lifted (os : Os) (started : os.Started) (H : Type) (enc : TypeId × Value → H) :
    ReturnsInHanded {} Try.checked os 4 .any (Rows.dirBackSpec.pre6 enc Try.prog Try.f4 Rows.dirBackRow.domain false) (Rows.dirBackSpec.post enc Try.prog Try.f4 false true false false) := by
  refine returnsInHanded_of_change (C := Try.checked) own started (by kernel_rfl) Try.func4
    (ChangeSpec.witness6 (enc := enc) (C := Try.checked) false ⟨#[], #[.string ⟨#[]⟩], []⟩ 8 (by kernel_rfl) (by kernel_rfl) (by kernel_rfl) (by kernel_rfl)) ?_
  intro W base args ds gs before hval0 hW hcnd _
  have hval : ∀ (j : Nat) t v, Try.f4.params[j]? = some t → args[j]? = some v → Value.okWide Try.prog W .any base t v := hval0
  have hW' := hW
  obtain ⟨p, q, hA0, hV, rfl, hfz, hnd⟩ := hW
  have hA : DataW.TrodAll enc Try.prog W 0 (fun _ => true) true Try.f4.params.toList args.toList ds p := hA0
  rw [Try.params4] at hA hval
  obtain ⟨v0, vs0, d0, ds0, p0, q0, hargs, rfl, rfl, h0, r0⟩ := trodAll_cons hA
  obtain ⟨rfl, rfl, rfl⟩ := trodAll_nil r0
  obtain rfl : args = #[v0] := by cases args; simp_all
  obtain ⟨rfl, rfl⟩ := trodVars_none hV
  have k0 := h0
  have lt0 : ∀ x ∈ p0, x.block < W.heap.size := by obtain ⟨m, hm⟩ := k0; exact DataW.trod_lt m _ _ _ hm
  have post : ∀ e W', e = Ending.returned (.bool true) → Below W.heap.size W W' → ∃ v, e = .returned v ∧ Rows.dirBackSpec.post enc Try.prog Try.f4 false true false false W #[v0] v W' := by
    intro e W' he bel
    subst he
    exact ⟨_, rfl, _, _, _, [], _, [], hW', trodAll_mk1 (shut_bool Try.underlying4 _), (trodAll_cons_mk (Below.trod laidOut (by kernel_rfl) (of_decide_eq_true (by kernel_rfl)) k0 bel lt0) trodAll_mk0), rfl, bel.frame _, fun h => by cases h⟩
  clear hW' hcnd hfz hnd hA0 hA hval0
  obtain ⟨x, rfl, -, -, -⟩ := open_string Try.underlying9 (hval 0 9 v0 rfl rfl) h0
  exact (back_any x W).mono fun e W' ⟨he, bel⟩ => post e W' he bel

theorem over : Rows.dirBackRow.holds Try.pinned (OpenSpec.ofChange Rows.dirBackSpec) :=
  OpenClaim.holds_of_wide 4 Try.f4 rfl rfl rfl rfl rfl rfl rfl ⟨rfl, rfl, rfl, rfl, rfl⟩ rfl rfl rfl rfl rfl (by kernel_rfl) Try.func4 (by kernel_rfl)
    (of_decide_eq_true (by kernel_rfl)) (by unfold Func.isWrapper; first | (rw [if_pos (by decide +kernel)]; kernel_rfl) | (rw [if_neg (by decide +kernel)]; exact ⟨rfl, rfl⟩))
    (fun os started H enc _ => lifted os started H enc)
end DirBackLift

/-- The statement. -/
theorem dirBack_holds : Rows.DirBackSaid := DirBackLift.over
#print axioms dirBack_holds
end Go.Proofs.Ytobnibdeimiinaa
