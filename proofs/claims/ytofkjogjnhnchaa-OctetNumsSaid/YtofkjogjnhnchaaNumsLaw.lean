/- OctetNums: any numbers as bytes, and back. -/
import Derived.Test.YtofkjogjnhnchaaSmall
import Derived.Test.YtofkjogjnhnchaaRef
import Derived.Test.YtofkjogjnhnchaaBackNum
import Derived.Deep.RegionHeld3
namespace Go.Proofs.Ytofkjogjnhnchaa
open Go.RowKit Go.Joins

theorem nums_zero (p base : Nat) (l : List UInt8) (o : Option Nat) (ao : Option Addr) (cv : Nat) (w : World) (hw : WrAt w p base l o) :
    Calls Try.prog 12 #[.pointer (some ⟨p, 0, none⟩), .slice ao 0 cv] w fun e w' => e = .returned (.tuple #[]) ∧ WInv w w' p base o (l ++ encs []) [] := by
  have Hw := Lib.hid hw
  clear hw
  go_enter Try.func12, Try.ntmps12
  go_wp2_with fail
  refine wp_loop_rounds 1 ?_
  rw [rounds_succ]
  go_wp2_with fail
  go_end0
  exact ⟨rfl, by have := WInv.start (rest := []) Hw.out; simpa [encs] using this⟩
theorem nums_all (p base : Nat) (l : List UInt8) (o : Option Nat) (ao : Option Addr) (cv : Nat) (vs : List Int) (w : World) (hw : WrAt w p base l o) (hrow : 0 < vs.length → ∃ b off, ao = some ⟨b, off, none⟩ ∧ b < w.heap.size ∧ b ≠ p ∧ o ≠ some b ∧ IRow w b off vs) (hbase : base ≤ w.heap.size) (hm : l.length + 10 * vs.length ≤ 140737488351232) :
    Calls Try.prog 12 #[.pointer (some ⟨p, 0, none⟩), .slice ao vs.length cv] w fun e w' => e = .returned (.tuple #[]) ∧ WInv w w' p base o (l ++ encs vs) [] := by
  by_cases hp : 0 < vs.length
  · obtain ⟨b, off, rfl, hb, hbp, hbo, hr⟩ := hrow hp
    exact nums_some p base l o b off cv vs w hw hr hb hbp hbo hbase hm
  · have : vs = [] := List.length_eq_zero_iff.1 (by omega)
    subst this
    exact nums_zero p base l o ao cv w hw
theorem encs_cons (v : Int) (r : List Int) : encs (v :: r) = encN (clampN v) ++ encs r := rfl
theorem RdAt.grow {w w' : World} {p g : Nat} {rest : List UInt8} {bad : Bool} (h : RdAt w p g rest bad) (b : Below w.heap.size w w') : RdAt w' p g rest bad := h.keeps (keeps_same b (fun _ => False)) (fun h => h) (fun h => h)
theorem same_yes (ao bo : Option Addr) (ca cb : Nat) (a : List UInt8) (w : World) (ha : BAt w ao a) (hb : BAt w bo a) (hm : a.length ≤ 9223372036854775807) :
    Calls Try.prog 14 #[.slice ao a.length ca, .slice bo a.length cb] w fun e w' => e = .returned (.bool true) ∧ Below w.heap.size w w' := by
  have := same_any ao bo ca cb a a w ha hb hm hm
  simpa only [beq_self_eq_true] using this
theorem own_keeps {w w' : World} {base : Nat} {ao : Option Addr} {cap : Nat} {l : List UInt8} {S : Nat → Prop} (h : OwnB w base ao cap l) (k : Keeps w w' S) (hn : ∀ g, (Value.slice ao l.length cap).ownBlock = some g → ¬ S g) : OwnB w' base ao cap l := by
  refine ⟨h.1, ?_⟩
  rcases h.2 with h2 | ⟨g, c, cur, hv, hg, hh, r⟩
  · exact .inl h2
  · exact .inr ⟨g, c, cur, hv, hg, (k.block g (Array.getElem?_eq_some_iff.1 hh).1 (hn g (by rw [hv]; rfl))).trans hh, r⟩
theorem own_grow {w w' : World} {base : Nat} {ao : Option Addr} {cap : Nat} {l : List UInt8} (h : OwnB w base ao cap l) (b : Below w.heap.size w w') : OwnB w' base ao cap l := own_keeps h (keeps_same b (fun _ => False)) (fun _ _ h => h)
theorem own_lt {w : World} {base : Nat} {ao : Option Addr} {cap : Nat} {l : List UInt8} (h : OwnB w base ao cap l) : ∀ g, (Value.slice ao l.length cap).ownBlock = some g → g < w.heap.size ∧ base ≤ g := by
  intro g hg
  rcases h.2 with ⟨hv, -⟩ | ⟨g', c, cur, hv, hb, hh, -⟩
  · rw [hv] at hg; simp [Value.ownBlock] at hg
  · rw [hv] at hg
    simp only [Value.ownBlock, Option.some.injEq] at hg
    subst hg
    exact ⟨lt_of_block hh, hb⟩
/-- The block of a slice of the call's own lies at its base or behind. -/
theorem own_at {w : World} {base : Nat} {ao : Option Addr} {cap : Nat} {l : List UInt8} (h : OwnB w base ao cap l) {x : Nat} (hx : ∃ a, ao = some a ∧ a.block = x) : base ≤ x := by
  obtain ⟨a, rfl, rfl⟩ := hx
  exact (own_lt h a.block rfl).2

set_option maxRecDepth 8000 in
set_option maxHeartbeats 2000000 in
theorem nums_walk (ao : Option Addr) (cap : Nat) (vs : List Int) (W : World) (hm : vs.length ≤ 9223372036854775807) (hrow : 0 < vs.length → ∃ b off, ao = some ⟨b, off, none⟩ ∧ b < W.heap.size ∧ IRow W b off vs) :
    Calls Try.prog 4 #[.slice ao vs.length cap] W fun e w' => e = .returned (.bool true) ∧ Below W.heap.size W w' := by
  have Hrow := Lib.hid hrow
  clear hrow
  by_cases hbig : (500 : Int) < vs.length
  · go_enter Try.func4, Try.ntmps4
    go_wp2_with fail
    go_ret
    exact ⟨rfl, (by repeat (first | with_reducible exact Below.refl _ _ | with_reducible assumption | with_reducible refine Below.drew ?_ | with_reducible refine below_drawn ?_ | with_reducible refine Below.alloc ?_ (by first | omega | (simp; done) | (simp; omega) | (simp at *; omega)) _ | with_reducible refine Below.setCell ?_ (by first | omega | (simp; done) | (simp; omega) | (simp at *; omega)) _ | with_reducible refine Below.trans ?_ (Below.mono (by assumption) (by first | omega | (simp; done) | (simp; omega) | (simp at *; omega)))))⟩
  · have hel := encs_length vs
    go_enter Try.func4, Try.ntmps4
    go_wp2_with fail
    refine (nums_all W.heap.size W.heap.size [] none ao cap vs _ (wr_new W W.heap.size _ rfl) (fun hp => by
      obtain ⟨b, off, e, hb, hr⟩ := Hrow.out hp
      exact ⟨b, off, e, by simp; omega, by omega, by simp, fun i hi => ((below_alloc W _).cell (p := ⟨b, off + i, none⟩) hb).trans (hr i hi)⟩) (by simp) (by simp; omega)).mono ?_
    rintro e w1 ⟨rfl, h1⟩
    obtain ⟨o1, hw1, hk1, hf1⟩ := h1.done
    rw [List.nil_append] at hw1
    have hb1 : Below W.heap.size W w1 := (below_alloc W _).trans (hk1.below (fun x s => by rcases s with s | s; omega; cases s) (by simp))
    have hs1 := hb1.size
    have Hw1 := Lib.hid hw1
    have Hb1 := Lib.hid hb1
    clear h1 hw1 hk1 hf1 hb1
    go_wp2_with fail
    refine (out_any _ _ _ _ _ Hw1.out (by omega)).mono ?_
    rintro e w2 ⟨bo, bc, rfl, ho2, hb2⟩
    have hb2' := Hb1.out.trans (hb2.mono hs1)
    have hs2 := hb2'.size
    have Hw2 := Lib.hid (Hw1.out.grow hb2)
    have hpl := Hw1.out.lt
    have hol := Hw1.out.own_lt
    have Hol := Lib.hid (⟨hpl, hol, hb2.size⟩ : _ ∧ _ ∧ _)
    have Ho2 := Lib.hid ho2
    have Hb2 := Lib.hid hb2'
    clear Hw1 Hb1 ho2 hb2 hb2' hpl hol
    go_wp2_with fail
    refine (refNums_any ao cap vs w2 (fun hp => by
      obtain ⟨b, off, e, hb, hr⟩ := Hrow.out hp
      exact ⟨b, off, e, by omega, fun i hi => (Hb2.out.cell (p := ⟨b, off + i, none⟩) hb).trans (hr i hi)⟩) (by omega)).mono ?_
    rintro e w3 ⟨co, cc, rfl, ho3, hb3⟩
    have Hw3 := Lib.hid (Hw2.out.grow hb3)
    have Hob := Lib.hid (own_grow Ho2.out hb3)
    have hb3' := Hb2.out.trans (hb3.mono hs2)
    have hs3 := hb3'.size
    have Hsz3 := Lib.hid hb3.size
    have Ho3 := Lib.hid ho3
    have Hb3 := Lib.hid hb3'
    clear Hw2 Ho2 Hb2 ho3 hb3 hb3'
    go_wp2_with fail
    refine (same_yes bo co bc cc (encs vs) _ Hob.out.at Ho3.out.at (by omega)).mono ?_
    rintro e w4 ⟨rfl, hb4⟩
    have Hw4 := Lib.hid (Hw3.out.grow hb4)
    have Hob4 := Lib.hid (own_grow Hob.out hb4)
    have hb4' := Hb3.out.trans (hb4.mono hs3)
    have Hsz4 := Lib.hid hb4.size
    have hs4 := hb4'.size
    have Hb4 := Lib.hid hb4'
    clear Hw3 Hob Ho3 Hb3 hb4 hb4'
    go_wp2_with fail
    refine (newReader_any bo bc (encs vs) _ Hob4.out.none Hob4.out.at (by omega)).mono ?_
    rintro e w5 ⟨q, qg, rfl, -, hb5, -, -⟩
    have Hw5 := Lib.hid (Hw4.out.grow hb5)
    have Hob5 := Lib.hid (own_grow Hob4.out hb5)
    have hb5' := Hb4.out.trans (hb5.mono hs4)
    have hs5 := hb5'.size
    have hs15 : w1.heap.size ≤ w5.heap.size := Nat.le_trans Hol.out.2.2 (Nat.le_trans Hsz3.out (Nat.le_trans Hsz4.out hb5.size))
    have Hb5 := Lib.hid hb5'
    clear Hw4 Hob4 Hb4 hb5 hb5'
    go_wp2_with fail
    refine (spoil_any bo bc w1.heap.size (encs vs) _ Hob5.out hs15 (by omega)).mono ?_
    rintro e w6 ⟨rfl, hk6⟩
    have Hw6 := Lib.hid (Hw5.out.keeps hk6 (fun s => by have := own_at Hob5.out s; have := Hol.out.1; omega) (fun g hg s => by have := own_at Hob5.out s; have := (Hol.out.2.1 g hg).1; omega))
    have hb6 := Hb5.out.trans (hk6.below (B := W.heap.size) (fun x s => by have := own_at Hob5.out s; omega) hs5)
    have hs6 := hb6.size
    have Hb6 := Lib.hid hb6
    clear Hw5 Hob5 Hb5 hk6 hb6
    go_wp2_with fail
    refine (out_any _ _ _ _ _ Hw6.out (by omega)).mono ?_
    rintro e w7 ⟨xo, xc, rfl, ho7, hb7⟩
    have hb7' := Hb6.out.trans (hb7.mono hs6)
    have hs7 := hb7'.size
    have Ho7 := Lib.hid ho7
    have Hb7 := Lib.hid hb7'
    clear Hw6 Hb6 ho7 hb7 hb7' Hol Hsz3
    go_wp2_with fail
    refine (newReader_any xo xc (encs vs) _ Ho7.out.none Ho7.out.at (by omega)).mono ?_
    rintro e w8 ⟨p, g, rfl, hr8, hb8, hp8, hg8⟩
    have hb8' := Hb7.out.trans (hb8.mono hs7)
    have hpW : W.heap.size ≤ p := by omega
    have Hr8 := Lib.hid hr8
    have Hb8 := Lib.hid hb8'
    clear Ho7 Hb7 hr8 hb8 hb8' hp8 hg8
    go_wp2_with fail
    go_loopw [6] (fun s6 wr => ∃ k : Nat, s6 = .int .i64 k ∧ k ≤ vs.length ∧ Hid (RdAt wr p g (encs (vs.drop k)) false) ∧ Hid (Below W.heap.size W wr)) (fun s6 _ => vs.length - (intOf s6).toNat)
    case atStart => exact ⟨0, rfl, by omega, Hr8, Hb8⟩
    case round =>
      obtain ⟨k, rfl, hk, Hr, Hb⟩ := hrel
      clear Hr8 Hb8
      have hdl : (encs (vs.drop k)).length ≤ 5000 := by
        have := encs_length (vs.drop k)
        rw [List.length_drop] at this
        omega
      by_cases hlt : (k : Int) < vs.length
      · obtain ⟨b, off, rfl, hb, hr⟩ := Hrow.out (by omega)
        obtain ⟨v, hv⟩ : ∃ v, v = vs[k]'(by omega) := ⟨_, rfl⟩
        have hcv := (Hb.out.cell (p := ⟨b, off + k, none⟩) hb).trans (hr k (by omega))
        rw [← hv] at hcv
        have hdrop : vs.drop k = v :: vs.drop (k + 1) := by rw [hv]; exact List.drop_eq_getElem_cons (by omega)
        have hno : numOf (encs (vs.drop k)) = some (clampN v, encs (vs.drop (k + 1))) := by rw [hdrop, encs_cons]; exact numOf_enc _ _ (clampN_le v)
        have hmm := clampN_eq v
        have Hno := Lib.hid hno
        clear hv hr hdrop hno
        go_wp2_with fail
        go_region_held3 (fun w' => w'.cell? ⟨b, off + k, none⟩ = some (.int .i64 v)) (go_keep) ((go_at_call 18; refine (rdnum_any p g _ false _ (Hr.out.grow (Below.refl _ _).drew) (by omega)).mono ?_; rintro e y1 ⟨hy, -, ky⟩; obtain ⟨rfl, hr1⟩ := hy _ _ Hno.out; have by1 := Hb.out.drew.trans (ky.below (B := W.heap.size) (fun x h => by have h : x = p := h; omega) Hb.out.size); have hcy := (by1.cell (p := ⟨b, off + k, none⟩) hb).trans ((Hb.out.cell (p := ⟨b, off + k, none⟩) hb).symm.trans hcv); have Hr1 := Lib.hid hr1; have By1 := Lib.hid by1; clear hr1 by1 hy ky))
        all_goals go_wp2_with fail
        all_goals go_roundw
        all_goals first | exact ⟨k + 1, by go_num, by omega, Hr1, By1⟩ | (simp [intOf]; omega)
      · have hd : vs.drop k = [] := List.drop_eq_nil_of_le (by omega)
        have hr := Hr.out
        rw [hd] at hr
        have Hr' := Lib.hid hr
        clear hr Hr hdl hd
        go_wp2_with fail
        refine (good_any p g _ false _ Hr'.out).mono ?_
        rintro e w9 ⟨rfl, rfl⟩
        go_wp2_with fail
        refine (whole_any p g _ false _ Hr'.out (by decide)).mono ?_
        rintro e w9 ⟨rfl, rfl⟩
        go_wp2_with fail
        refine (known_any _).mono ?_
        rintro e w9 ⟨rfl, hb9⟩
        have Hb9 := Lib.hid (Hb.out.trans (hb9.mono Hb.out.size))
        clear hb9
        go_wp2_with fail
        go_ret
        exact ⟨rfl, Hb9.out⟩

namespace OctetNumsLift
open Go.ChangeShapes Go.WideShapes Go.ChangeAt Go.RowKit Go.Joins Go.Deep
open Go.ChangeMaps (open_string shut_string)

theorem own : ownKnob Try.prog.godebug = none := by kernel_rfl
theorem laidOut : laidOutB Try.prog = true := by kernel_rfl

set_option maxHeartbeats 1000000 in
set_option maxRecDepth 100000 in
theorem lifted (os : Os) (started : os.Started) (H : Type) (enc : TypeId × Value → H) :
    ReturnsInHanded {} Try.checked os 4 .any (Rows.octetNumsSpec.pre6 enc Try.prog Try.f4 Rows.octetNumsRow.domain false) (Rows.octetNumsSpec.post enc Try.prog Try.f4 false true false false) := by
  refine returnsInHanded_of_change (C := Try.checked) own started (by kernel_rfl) Try.func4
    (ChangeSpec.witness6 (enc := enc) (C := Try.checked) false ⟨#[], #[.slice none 0 0], []⟩ 8 (by kernel_rfl) (by kernel_rfl) (by kernel_rfl) (by kernel_rfl)) ?_
  intro W base args ds gs before hval0 hW hcnd _
  have hval : ∀ (j : Nat) t v, Try.f4.params[j]? = some t → args[j]? = some v → Value.okWide Try.prog W .any base t v := hval0
  have hW' := hW
  obtain ⟨p, q, hA0, hV, rfl, hfz, hnd⟩ := hW
  have hA : DataW.TrodAll enc Try.prog W 0 (fun _ => true) true Try.f4.params.toList args.toList ds p := hA0
  rw [Try.params4] at hA hval
  obtain ⟨v0, vs0, d0, ds0, p0, q0, hargs, rfl, rfl, h0, r0⟩ := trodAll_cons hA
  obtain ⟨rfl, rfl, rfl⟩ := trodAll_nil r0
  obtain rfl : args = #[v0] := by cases args; simp_all
  obtain ⟨rfl, rfl⟩ := trodVars_none hV
  have k0 := h0
  have lt0 : ∀ x ∈ p0, x.block < W.heap.size := by obtain ⟨m, hm⟩ := k0; exact DataW.trod_lt m _ _ _ hm
  have post : ∀ e W', e = Ending.returned (.bool true) → Below W.heap.size W W' → ∃ v, e = .returned v ∧ Rows.octetNumsSpec.post enc Try.prog Try.f4 false true false false W #[v0] v W' := by
    intro e W' he bel
    subst he
    exact ⟨_, rfl, _, _, _, [], _, [], hW', trodAll_mk1 (shut_bool Try.underlying4 _), (trodAll_cons_mk (Below.trod laidOut (by kernel_rfl) (of_decide_eq_true (by kernel_rfl)) k0 bel lt0) trodAll_mk0), rfl, bel.frame _, fun h => by cases h⟩
  clear hW' hcnd hfz hnd hA0 hA hval0
  obtain ⟨ao, vs, cap, rfl, hAc, hAm, hrow⟩ := open_intsB (hval 0 30 v0 rfl rfl) h0
  exact (nums_walk ao cap vs W (by unfold maxLen at hAm; omega) hrow).mono fun e W' ⟨he, bel⟩ => post e W' he bel

theorem over : Rows.octetNumsRow.holds Try.pinned (OpenSpec.ofChange Rows.octetNumsSpec) :=
  OpenClaim.holds_of_wide 4 Try.f4 rfl rfl rfl rfl rfl rfl rfl ⟨rfl, rfl, rfl, rfl, rfl⟩ rfl rfl rfl rfl rfl (by kernel_rfl) Try.func4 (by kernel_rfl)
    (of_decide_eq_true (by kernel_rfl)) (by unfold Func.isWrapper; first | (rw [if_pos (by decide +kernel)]; kernel_rfl) | (rw [if_neg (by decide +kernel)]; exact ⟨rfl, rfl⟩))
    (fun os started H enc _ => lifted os started H enc)
end OctetNumsLift

/-- The statement. -/
theorem octetNums_holds : Rows.OctetNumsSaid := OctetNumsLift.over
#print axioms octetNums_holds
end Go.Proofs.Ytofkjogjnhnchaa
