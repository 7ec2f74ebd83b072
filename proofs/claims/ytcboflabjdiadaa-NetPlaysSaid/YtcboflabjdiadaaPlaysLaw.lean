/- NetPlays: of every script each answer and message is the document's. It holds of every script, without a condition. -/
import Derived.Test.YtcboflabjdiadaaNdE
import Derived.Test.YtcboflabjdiadaaNdO
import Derived.Test.YtcboflabjdiadaaNdS
import Derived.Test.YtcboflabjdiadaaNdV
import Derived.Test.YtcboflabjdiadaaNdD
import Derived.Test.YtcboflabjdiadaaNdN
import Derived.Test.YtcboflabjdiadaaOpenAc
import Derived.Test.YtcboflabjdiadaaRows
namespace Go.Proofs.Ytcboflabjdiadaa
open Go.RowKit

theorem does_ex (W w : World) (p x : Nat) (C : List Ct) (k n m : Int) (y : UInt8) (mo : Option Addr) (mc : Nat) (M : List Ms) (h : Both W w p x C C []) (hM : MsAt W mo M) (hMl : M.length * 40 ≤ 140737488351232) :
    Calls Try.prog 21 #[.pointer (some ⟨p, 0, none⟩), .pointer (some ⟨x, 0, none⟩), .agg #[.int .i64 k, .int .i64 n, .int .i64 m, .int .u8 (y.toNat : Int), .slice mo M.length mc]] w fun e w' => e = .returned (.bool true) ∧ ∃ C', Both W w' p x C' C' [] := by
  by_cases h1 : k = 1
  · subst h1
    exact (does_Send W w p x C [] n m y mo mc M h hM hMl).mono fun _ _ ⟨a, b⟩ => ⟨a, _, b⟩
  by_cases h2 : k = 2
  · subst h2
    exact (does_Give W w p x C [] n m y mo M.length mc h).mono fun _ _ ⟨a, b⟩ => ⟨a, _, b⟩
  by_cases h3 : k = 3
  · subst h3
    exact (does_Twice W w p x C [] n m y mo M.length mc h).mono fun _ _ ⟨a, b⟩ => ⟨a, _, b⟩
  by_cases h4 : k = 4
  · subst h4
    exact (does_Late W w p x C [] n m y mo M.length mc h).mono fun _ _ ⟨a, b⟩ => ⟨a, _, b⟩
  by_cases h5 : k = 5
  · subst h5
    exact (does_Spoil W w p x C [] n m y mo M.length mc h).mono fun _ _ ⟨a, b⟩ => ⟨a, _, b⟩
  by_cases h6 : k = 6
  · subst h6
    exact (does_Drop W w p x C [] n m y mo M.length mc h).mono fun _ _ ⟨a, b⟩ => ⟨a, _, b⟩
  exact (does_other W w p x C [] k n m y mo M.length mc h (by simpa using h1) (by simpa using h2) (by simpa using h3) (by simpa using h4) (by simpa using h5) (by simpa using h6)).mono fun _ _ ⟨a, b⟩ => ⟨a, _, b⟩
theorem does_take (W w : World) (p x : Nat) (C : List Ct) (h : Both W w p x C C []) :
    Calls Try.prog 21 #[.pointer (some ⟨p, 0, none⟩), .pointer (some ⟨x, 0, none⟩), .agg #[.int .i64 2, .int .i64 0, .int .i64 0, .int .u8 0, .slice none 0 0]] w fun e w' => e = .returned (.bool true) ∧ Both W w' p x (C.eraseIdx (pickOf C.length 0)) (C.eraseIdx (pickOf C.length 0)) [] :=
  does_Give W w p x C [] 0 0 0 none 0 0 h
theorem both_new {W w1 : World} (h : St W w1 []) (w2 : World) (p : Nat) (hp : p = w1.heap.size) (hw2 : w2 = w1.alloc (.cells #[.slice none 0 0] 56)) : Both W (w2.alloc (.cells #[.slice none 0 0] 50)) p w2.heap.size [] [] [] := by
  subst hp hw2
  have S1 := h.newNet
  have S2 := S1.newRef
  refine ⟨none, 0, [], none, 0, [], rfl, (fun _ h => by simp at h), by simp, rfl, (fun _ h => by simp at h), by simp, ?_⟩
  exact S2.perm (swap3 _ _ [])
/-- How many messages the document's Net has. -/
def lenAt (w : World) (x : Nat) : Nat := match w.cell? ⟨x, 0, none⟩ with
  | some (.slice _ n _) => n
  | _ => 0
theorem both_len {W w : World} {p x : Nat} {C D : List Ct} {R : List Th} (h : Both W w p x C D R) : lenAt w x = D.length := by
  obtain ⟨ro, rc, l, ro2, rc2, l2, h1, h2, h3, h4, h5, h6, hS⟩ := h
  have hm : (thNetref W.heap.size x ro2 rc2 l2).T w := hS.mem (List.mem_append.2 (.inr (List.mem_append.2 (.inl List.mem_cons_self))))
  unfold lenAt
  rw [(cells_of_obj hm.1).1, ← h4]
  simp
set_option maxRecDepth 20000 in
set_option maxHeartbeats 4000000 in
theorem plays_any (ao : Option Addr) (cap : Nat) (A : List Ac) (w : World) (h : AcsAt w ao A) (hm : A.length ≤ 9223372036854775807) :
    Calls Try.prog 7 #[.slice ao A.length cap] w fun e w' => e = .returned (.bool true) ∧ Below w.heap.size w w' := by
  have H := Lib.hid h
  clear h
  go_enter Try.func7, Try.ntmps7
  go_wp2_with fail
  refine (heavy_any ao cap A w H.out hm).mono ?_
  rintro e w1 ⟨he, rfl⟩
  rcases he with rfl | rfl
  · go_wp2_with fail
    go_ret
    exact ⟨rfl, (by repeat (first | with_reducible exact Below.refl _ _ | with_reducible assumption | with_reducible refine Below.drew ?_ | with_reducible refine below_drawn ?_ | with_reducible refine Below.alloc ?_ (by first | omega | (simp; done) | (simp; omega) | (simp at *; omega)) _ | with_reducible refine Below.setCell ?_ (by first | omega | (simp; done) | (simp; omega) | (simp at *; omega)) _ | with_reducible refine Below.trans ?_ (Below.mono (by assumption) (by first | omega | (simp; done) | (simp; omega) | (simp at *; omega)))))⟩
  go_wp2_with fail
  refine (new_any w).mono ?_
  rintro e w2 ⟨rfl, hw2⟩
  have HB := Lib.hid (both_new (St.start w) w2 _ rfl hw2)
  obtain ⟨p, hp⟩ : ∃ p, p = w.heap.size := ⟨_, rfl⟩
  obtain ⟨x, hx⟩ : ∃ x, x = w2.heap.size := ⟨_, rfl⟩
  rw [← hp] at HB ⊢
  rw [← hx] at HB
  clear hw2 hp
  go_wp2_with fail
  rw [← hx]
  clear hx
  go_loopw [5] (fun s5 wr => ∃ (i : Nat) (C : List Ct), s5 = .int .i64 i ∧ i ≤ A.length ∧ i ≤ 150 ∧ Hid (Both w wr p x C C [])) (fun s5 _ => A.length - (intOf s5).toNat)
  case atStart => exact ⟨0, [], rfl, by omega, by omega, HB⟩
  case round =>
    obtain ⟨i, C, rfl, hi, hi2, HBr⟩ := hrel
    by_cases hgo : i < A.length ∧ i < 150
    · obtain ⟨hlt, h150⟩ := hgo
      obtain ⟨b, off, rfl, hb, hr⟩ := H.out (by omega)
      obtain ⟨ak, an, am, ay, mo, mc, ms, hA⟩ : ∃ ak an am ay mo mc ms, A[i] = (⟨ak, an, am, ay, mo, mc, ms⟩ : Ac) := ⟨_, _, _, _, _, _, _, rfl⟩
      have hra := hr i hlt
      rw [hA] at hra
      have hg := HBr.out.b
      obtain ⟨c0, c1, c2, c3, c4, hM, hMl, -⟩ := hra.grow hb hg
      have HMW : Hid (MsAt w mo ms) := hra.hm
      have hbl : b < wr.heap.size := Nat.lt_of_lt_of_le hb hg.size
      dsimp only at c0 c1 c2 c3 c4 hMl
      have hlti : (i : Int) < A.length := by omega
      have hlti2 : (i : Int) < 150 := by omega
      clear hr hA hra hg hM
      go_wp2_with fail
      refine (does_ex w wr p x C ak an am ay mo mc ms HBr.out HMW.out hMl).mono ?_
      rintro e w3 ⟨rfl, C', hB3⟩
      have HB3 := Lib.hid hB3
      clear hB3 c0 c1 c2 c3 c4 hbl
      go_wp2_with fail
      refine (len_b HB3.out).mono ?_
      rintro e w4 ⟨rfl, rfl⟩
      go_wp2_with fail
      refine (rlen_b HB3.out).mono ?_
      rintro e w4 ⟨rfl, rfl⟩
      go_wp2_with fail
      go_roundw
      case rel => exact ⟨i + 1, C', by go_num, by omega, by omega, HB3⟩
      case measure => simp [intOf]; omega
    · by_cases hlt : i < A.length
      · have h150 : ¬ ((i : Int) < 150) := by omega
        clear hgo
        (go_wp2_with fail); (go_loopw [] (fun wr => ∃ C : List Ct, Hid (Both w wr p x C C [])) (fun wr => lenAt wr x)); (case atStart => exact ⟨C, HBr⟩); (case round => ((obtain ⟨C, HBr⟩ := hrel); (have hlen := Lib.hid (both_len HBr.out)); (go_wp2_with fail); (refine (rlen_b HBr.out).mono ?_); (rintro e w4 ⟨rfl, rfl⟩); (by_cases h0 : 0 < C.length); (focus ((have h0i : (0 : Int) < C.length := by omega); (go_wp2_with fail); (refine (does_take w wr p x C HBr.out).mono ?_); (rintro e w5 ⟨rfl, hB5⟩); (have HB5 := Lib.hid hB5); clear hB5; (go_wp2_with fail); go_roundw; (case rel => exact ⟨_, HB5⟩); (case measure => (rw [both_len HB5.out, hlen.out, List.length_eraseIdx_of_lt (pickOf_lt h0 0)]; omega)))); (focus ((have h0i : ¬ (0 : Int) < C.length := by omega); (obtain rfl : C = [] := List.length_eq_zero_iff.1 (by omega)); (go_wp2_with fail); (refine (giveno_b HBr.out 0).mono ?_); (rintro e w5 ⟨rfl, hB5⟩); (have HB5 := Lib.hid hB5); clear hB5; (unfold zM); (go_wp2_with fail); (refine (len_b (HB5.out.grow (by repeat (first | with_reducible exact Below.refl _ _ | with_reducible assumption | with_reducible refine Below.drew ?_ | with_reducible refine below_drawn ?_ | with_reducible refine Below.alloc ?_ (by first | omega | (simp; done) | (simp; omega) | (simp at *; omega)) _ | with_reducible refine Below.setCell ?_ (by first | omega | (simp; done) | (simp; omega) | (simp at *; omega)) _ | with_reducible refine Below.trans ?_ (Below.mono (by assumption) (by first | omega | (simp; done) | (simp; omega) | (simp at *; omega))))))).mono ?_); (rintro e w6 ⟨rfl, rfl⟩); (go_wp2_with fail); (refine (known_any _).mono ?_); (rintro e w7 ⟨rfl, hb7⟩); (go_wp2_with fail); go_ret; exact ⟨rfl, (HB5.out.grow (below_allocN _ _)).b.trans (hb7.mono (HB5.out.grow (below_allocN _ _)).b.size)⟩))))
      · clear hgo
        (go_wp2_with fail); (go_loopw [] (fun wr => ∃ C : List Ct, Hid (Both w wr p x C C [])) (fun wr => lenAt wr x)); (case atStart => exact ⟨C, HBr⟩); (case round => ((obtain ⟨C, HBr⟩ := hrel); (have hlen := Lib.hid (both_len HBr.out)); (go_wp2_with fail); (refine (rlen_b HBr.out).mono ?_); (rintro e w4 ⟨rfl, rfl⟩); (by_cases h0 : 0 < C.length); (focus ((have h0i : (0 : Int) < C.length := by omega); (go_wp2_with fail); (refine (does_take w wr p x C HBr.out).mono ?_); (rintro e w5 ⟨rfl, hB5⟩); (have HB5 := Lib.hid hB5); clear hB5; (go_wp2_with fail); go_roundw; (case rel => exact ⟨_, HB5⟩); (case measure => (rw [both_len HB5.out, hlen.out, List.length_eraseIdx_of_lt (pickOf_lt h0 0)]; omega)))); (focus ((have h0i : ¬ (0 : Int) < C.length := by omega); (obtain rfl : C = [] := List.length_eq_zero_iff.1 (by omega)); (go_wp2_with fail); (refine (giveno_b HBr.out 0).mono ?_); (rintro e w5 ⟨rfl, hB5⟩); (have HB5 := Lib.hid hB5); clear hB5; (unfold zM); (go_wp2_with fail); (refine (len_b (HB5.out.grow (by repeat (first | with_reducible exact Below.refl _ _ | with_reducible assumption | with_reducible refine Below.drew ?_ | with_reducible refine below_drawn ?_ | with_reducible refine Below.alloc ?_ (by first | omega | (simp; done) | (simp; omega) | (simp at *; omega)) _ | with_reducible refine Below.setCell ?_ (by first | omega | (simp; done) | (simp; omega) | (simp at *; omega)) _ | with_reducible refine Below.trans ?_ (Below.mono (by assumption) (by first | omega | (simp; done) | (simp; omega) | (simp at *; omega))))))).mono ?_); (rintro e w6 ⟨rfl, rfl⟩); (go_wp2_with fail); (refine (known_any _).mono ?_); (rintro e w7 ⟨rfl, hb7⟩); (go_wp2_with fail); go_ret; exact ⟨rfl, (HB5.out.grow (below_allocN _ _)).b.trans (hb7.mono (HB5.out.grow (below_allocN _ _)).b.size)⟩))))
namespace NetPlaysLift
open Go.ChangeShapes Go.WideShapes Go.ChangeAt Go.RowKit Go.Joins Go.Deep
open Go.ChangeMaps (open_string shut_string)

theorem own : ownKnob Try.prog.godebug = none := by kernel_rfl
theorem laidOut : laidOutB Try.prog = true := by kernel_rfl

set_option maxHeartbeats 1000000 in
set_option maxRecDepth 100000 in
theorem lifted (os : Os) (started : os.Started) (H : Type) (enc : TypeId × Value → H) :
    ReturnsInHanded {} Try.checked os 7 .any (Rows.netPlaysSpec.pre6 enc Try.prog Try.f7 Rows.netPlaysRow.domain false) (Rows.netPlaysSpec.post enc Try.prog Try.f7 false true false false) := by
  refine returnsInHanded_of_change_sized (C := Try.checked) own started (by kernel_rfl) Try.func7
    (ChangeSpec.witness6 (enc := enc) (C := Try.checked) false ⟨#[], #[.slice none 0 0], []⟩ 8 (by kernel_rfl) (by kernel_rfl) (by kernel_rfl) (by kernel_rfl)) ?_
  intro W base args ds gs before hval0 hW hcnd hsz0 _
  have hval : ∀ (j : Nat) t v, Try.f7.params[j]? = some t → args[j]? = some v → Value.okWide Try.prog W .any base t v := hval0
  have hW' := hW
  obtain ⟨p, q, hA0, hV, rfl, hfz, hnd⟩ := hW
  have hA : DataW.TrodAll enc Try.prog W 0 (fun _ => true) true Try.f7.params.toList args.toList ds p := hA0
  have hsz : (DataW.weightsEach Try.prog (Try.f7.params.toList ++ Rows.netPlaysSpec.plain.varTypes Try.prog) (ds ++ gs)).all (· ≤ reachBytes) = true := hsz0
  rw [Try.params7] at hA hval hsz
  obtain ⟨v0, vs0, d0, ds0, p0, q0, hargs, rfl, rfl, h0, r0⟩ := trodAll_cons hA
  obtain ⟨rfl, rfl, rfl⟩ := trodAll_nil r0
  obtain rfl : args = #[v0] := by cases args; simp_all
  obtain ⟨rfl, rfl⟩ := trodVars_none hV
  have k0 := h0
  have lt0 : ∀ x ∈ p0, x.block < W.heap.size := by obtain ⟨m, hm⟩ := k0; exact DataW.trod_lt m _ _ _ hm
  have post : ∀ e W', e = Ending.returned (.bool true) → Below W.heap.size W W' → ∃ v, e = .returned v ∧ Rows.netPlaysSpec.post enc Try.prog Try.f7 false true false false W #[v0] v W' := by
    intro e W' he bel
    subst he
    exact ⟨_, rfl, _, _, _, [], _, [], hW', trodAll_mk1 (shut_bool Try.underlying4 _), (trodAll_cons_mk (Below.trod laidOut (by kernel_rfl) (of_decide_eq_true (by kernel_rfl)) k0 bel lt0) trodAll_mk0), rfl, bel.frame _, fun h => by cases h⟩
  clear hW' hcnd hfz hnd hA0 hA hval0
  obtain ⟨ao, L, ca, rfl, hL1, hL2, hL3, hL4⟩ := open_acts (hval 0 27 v0 rfl rfl) h0 (fits_top hsz (j := 0) rfl rfl)
  exact (plays_any ao ca L W hL4 (by unfold maxLen at hL2; omega)).mono fun e W' ⟨he, bel⟩ => post e W' he bel

theorem over : Rows.netPlaysRow.holds Try.pinned (OpenSpec.ofChange Rows.netPlaysSpec) :=
  OpenClaim.holds_of_wide 7 Try.f7 rfl rfl rfl rfl rfl rfl rfl ⟨rfl, rfl, rfl, rfl, rfl⟩ rfl rfl rfl rfl rfl (by kernel_rfl) Try.func7 (by kernel_rfl)
    (of_decide_eq_true (by kernel_rfl)) (by unfold Func.isWrapper; first | (rw [if_pos (by decide +kernel)]; kernel_rfl) | (rw [if_neg (by decide +kernel)]; exact ⟨rfl, rfl⟩))
    (fun os started H enc _ => lifted os started H enc)
end NetPlaysLift

/-- The statement. -/
theorem netPlays_holds : Rows.NetPlaysSaid := NetPlaysLift.over
#print axioms netPlays_holds
end Go.Proofs.Ytcboflabjdiadaa
