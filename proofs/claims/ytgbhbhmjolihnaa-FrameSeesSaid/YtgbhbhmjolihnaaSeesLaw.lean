/- The law FrameSees: a record of which one byte is another one is refused. -/
import Derived.Test.YtgbhbhmjolihnaaFrHelp
import Derived.Test.YtgbhbhmjolihnaaFrSpoilt
import Derived.Test.YtgbhbhmjolihnaaRows
import Derived.Test.YtgbhbhmjolihnaaOpenR
namespace Go.Proofs.Ytgbhbhmjolihnaa
open Go.RowKit Go.Joins

theorem intMask30 (x : Int) : ∃ m : Nat, bits .and .i64 x 1073741823 = m ∧ m ≤ 1073741823 := by
  refine ⟨(BitVec.ofInt 64 x &&& BitVec.ofInt 64 1073741823).toNat, ?_, ?_⟩
  · show IntKind.i64.wrap ((BitVec.ofInt 64 x &&& BitVec.ofInt 64 1073741823).toNat : Int) = _
    have h : (BitVec.ofInt 64 x &&& BitVec.ofInt 64 1073741823).toNat ≤ 1073741823 := by
      rw [BitVec.toNat_and]; exact Nat.and_le_right
    rw [IntKind.wrap_i64]; omega
  · rw [BitVec.toNat_and]; exact Nat.and_le_right
set_option maxRecDepth 20000 in
set_option maxHeartbeats 4000000 in
theorem sees_walk (ao bo : Option Addr) (ca cb : Nat) (p more : List UInt8) (at_ : Int) (by_ : UInt8) (w0 : World) (hp : Sl w0 ao ca p) (hq : Sl w0 bo cb more) (hpm : p.length ≤ 140737488351232) (hqm : more.length ≤ 140737488351232) :
    Calls Try.prog 3 #[.slice ao p.length ca, .slice bo more.length cb, .int .i64 at_, .int .u8 by_.toNat] w0 fun e w' => e = .returned (.bool true) ∧ Below w0.heap.size w0 w' := by
  obtain ⟨i0, hi, hz0, hz1, hz2⟩ := info_parts byteInfo
  have Hp := Lib.hid hp
  have Hq := Lib.hid hq
  clear hp hq
  by_cases hsum : (4000 : Int) < (p.length : Int) + more.length
  · go_enter Try.func3, Try.ntmps3
    go_wp2_with fail
    go_ret
    exact ⟨rfl, (by repeat (first | with_reducible exact Below.refl _ _ | with_reducible assumption | with_reducible refine Below.drew ?_ | with_reducible refine below_drawn ?_ | with_reducible refine Below.alloc ?_ (by first | omega | (simp; done) | (simp; omega) | (simp at *; omega)) _ | with_reducible refine Below.setCell ?_ (by first | omega | (simp; done) | (simp; omega) | (simp at *; omega)) _ | with_reducible refine Below.trans ?_ (Below.mono (by assumption) (by first | omega | (simp; done) | (simp; omega) | (simp at *; omega)))))⟩
  by_cases hby : by_ = 0
  · subst hby
    have hz : ((0 : UInt8).toNat : Int) = 0 := rfl
    rw [hz]
    clear hz
    go_enter Try.func3, Try.ntmps3
    go_wp2_with fail
    go_ret
    exact ⟨rfl, (by repeat (first | with_reducible exact Below.refl _ _ | with_reducible assumption | with_reducible refine Below.drew ?_ | with_reducible refine below_drawn ?_ | with_reducible refine Below.alloc ?_ (by first | omega | (simp; done) | (simp; omega) | (simp at *; omega)) _ | with_reducible refine Below.setCell ?_ (by first | omega | (simp; done) | (simp; omega) | (simp at *; omega)) _ | with_reducible refine Below.trans ?_ (Below.mono (by assumption) (by first | omega | (simp; done) | (simp; omega) | (simp at *; omega)))))⟩
  have hbn : ¬ (by_.toNat : Int) = 0 := fun h => hby (UInt8.toNat_inj.1 (by rw [UInt8.toNat_zero]; omega))
  have hbe : ((by_.toNat : Int) == 0) = false := by rw [beq_eq_false_iff_ne]; exact hbn
  have hb1 : (0 : Int) ≤ by_.toNat ∧ (by_.toNat : Int) < 256 := ⟨by omega, by have := by_.toNat_lt; omega⟩
  have Hby := Lib.hid hby
  obtain ⟨m, hmask, hm30⟩ := intMask30 at_
  clear hby
  have hs1 := rs_one Hp.out 22 w0.heap.size rfl
  have henc := encode_any (some ⟨w0.heap.size, 0, none⟩) 1 [⟨ao, ca, p⟩] _ _ hs1 (by simp) (by simp) (by rw [flat_one1]; omega)
  rw [flat_one1] at henc
  have Henc := Lib.hid henc
  have hfl : (frameB p).length = p.length + 12 := frameB_length p
  obtain ⟨f, hf⟩ : ∃ f, f = frameB p := ⟨_, rfl⟩
  unfold EncPost at Henc
  rw [← hf] at Henc hfl
  have Hf := Lib.hid hf
  clear hs1 henc hf
  go_enter Try.func3, Try.ntmps3
  go_wp2_with fail
  refine Henc.out.mono ?_
  rintro e w1 ⟨ro, rc, rfl, ho, hb⟩
  have hb' : Below w0.heap.size w0 w1 := (below_allocF w0 _).trans (hb.mono (by simp))
  have HO := Lib.hid ho.sl
  have S1 := Lib.hid ((St.start w0).grow hb')
  have hs1 := hb'.size
  clear ho hb hb' Henc
  simp only
  obtain ⟨n, hn⟩ : ∃ n, n = f.length := ⟨_, rfl⟩
  rw [← hn] at hfl ⊢
  have Hn := Lib.hid hn
  have hnp : 0 < n := by omega
  have hn0 : ¬ (n : Int) = 0 := by omega
  have hnm : n ≤ 4012 := by omega
  have Hfl := Lib.hid hfl
  clear hn hfl
  go_wp2_with (at_builtin; go_must (refine wpList_append_any _ rfl (.tmp 37) (.tmp 38) 22 rfl w1.heap.size 5 i0 (.int .u8 0) 1 1 Try.underlying22 hi hz0 hz1 hz2 rfl (by decide) _ 0 [] rfl (owns_emptyAt _ w1.heap.size rfl w1.heap.size (Nat.le_refl _) 5 1) ro n rc (bytV f) rfl (fun h => by have := HO.out.n0 h; have := Hn.out; omega) (by rw [bytV_length, Hn.out, Nat.mul_one]) (HO.out.at_.below (below_allocF _ _)).cells (bytV_one _) (by unfold maxLen; omega) (by omega) (by simp) ?_))
  intro v w2 hown hgrow
  have hb2 : Below w1.heap.size w1 w2 := below_grown (below_allocF _ _) (by simp) hgrow (fun k hk => by simp [Value.ownBlock] at hk; omega)
  obtain ⟨co, c, hv, ho2⟩ := owned_bytes (l := f) (by simpa using hown) (by rw [Hn.out])
  obtain ⟨g, rfl, hg1, hg2⟩ := own_form ho2 (by rw [← Hn.out]; omega)
  have hle2 := ho2.le
  rw [← Hn.out] at hv hle2
  have S2 := Lib.hid (S1.out.own hb2 ho2)
  rw [hv]
  clear hv hown hgrow hb2 ho2 S1 HO
  obtain ⟨k, hk⟩ : ∃ k : Nat, k = m % n := ⟨_, rfl⟩
  have hk1 : ((m : Int) % (n : Int)) = k := by rw [hk]; rfl
  have hk2 : ((m : Int).tmod (n : Int)) = k := by rw [Int.tmod_eq_emod_of_nonneg (by omega)]; exact hk1
  have hklt : k < n := hk ▸ Nat.mod_lt _ (by omega)
  have hklt2 : (k : Int) < n := by omega
  have hkf : k < f.length := by rw [← Hn.out]; exact hklt
  have hcell := World.ownsRow.cellAt S2.out.head k (by omega)
  rw [bytV_get f k hkf] at hcell
  have hfrz := World.ownsRow.frozenAt S2.out.head k
  obtain ⟨d, hd⟩ : ∃ d, d = f[k]'hkf := ⟨_, rfl⟩
  rw [← hd] at hcell
  have hxb := xor_byte d by_
  obtain ⟨x, hx⟩ : ∃ x, x = d ^^^ by_ := ⟨_, rfl⟩
  have hxd : x ≠ f[k]'hkf := by rw [hx, ← hd]; exact xor_other d by_ Hby.out
  rw [← hx] at hxb
  have hrec : (decB (f.set k x ++ more)).2.2 ≠ 0 := by
    obtain rfl := Hf.out
    exact dec_spoilt p more (by have := Hfl.out; omega) k hkf x hxd
  have herr := dec_err hrec
  obtain ⟨rd, rn, re, hr⟩ : ∃ rd rn re, decB (f.set k x ++ more) = (rd, rn, re) := ⟨_, _, _, rfl⟩
  rw [hr] at hrec herr
  simp only at hrec herr
  obtain ⟨rfl, rfl⟩ := herr
  have S3 := Lib.hid (S2.out.step (t' := thOwn w1.heap.size (some ⟨g, 0, none⟩) c (f.set k x)) ((Keeps.set _ ⟨g, k, none⟩ (.int .u8 (x.toNat : Int))).weak (fun _ _ h => ⟨_, rfl, h.symm⟩)) (own_stored S2.out.head k x) (fun y hy => .inl hy))
  have hsl : (f.set k x).length = n := by rw [List.length_set, Hn.out]
  have hre : ((re : Int) != 0) = true := by simp; omega
  have Hr := Lib.hid hr
  have Hsl := Lib.hid hsl
  have hw3 : (w2.setCell ⟨g, k, none⟩ (.int .u8 (x.toNat : Int))).ownsRow w1.heap.size 5 1 (.slice (some ⟨g, 0, none⟩) n c) n (bytV (f.set k x)) := by have := S3.out.head; have h2 : OwnB _ w1.heap.size (some ⟨g, 0, none⟩) c (f.set k x) := this; unfold OwnB at h2; rwa [hsl] at h2
  have Hw3 := Lib.hid hw3
  have hbs3 := S3.out.b.size
  have hs3 : w1.heap.size ≤ w2.heap.size := by omega
  clear hk hd hx hxd hrec hr hsl hw3 S2 Hby
  go_wp2_with (at_builtin; go_must (refine wpList_append_foot _ rfl (.tmp 52) (.tmp 53) 22 rfl w1.heap.size 5 i0 (.int .u8 0) 1 1 Try.underlying22 hi hz0 hz1 hz2 rfl (by decide) (some ⟨g, 0, none⟩) n c (bytV (f.set k x)) rfl Hw3.out bo more.length cb (bytV more) rfl Hq.out.n0 (by rw [bytV_length, Nat.mul_one]) (Hq.out.at_.below S3.out.b).cells (bytV_one _) (by unfold maxLen; omega) (by omega) (by simp [World.setCell]; omega) ?_))
  intro zo zc w4 hown hgrow hco
  have hb4 : Below w0.heap.size w0 w4 := below_grown S3.out.b hbs3 hgrow (fun q hq => by have := own_block Hw3.out hq; omega)
  obtain ⟨co', c', hv, ho4⟩ := owned_bytes (l := f.set k x ++ more) (by rw [← bytV_append]; exact hown) (by rw [List.length_append, Hsl.out])
  have hll : (f.set k x ++ more).length = n + more.length := by rw [List.length_append, Hsl.out]
  rw [hll] at hv
  simp only [Value.slice.injEq, true_and] at hv
  obtain ⟨rfl, rfl⟩ := hv
  have hdec := decode_any zo zc (f.set k x ++ more) w4 ho4.sl (by omega)
  rw [Hr.out, hll] at hdec
  have Hdec := Lib.hid hdec
  have HB4 := Lib.hid hb4
  have hs4 := hb4.size
  clear hown hgrow hco hb4 ho4 hll hdec S3 Hw3
  go_wp2_with fail
  refine Hdec.out.mono ?_
  rintro e w5 ⟨qo, qc, rfl, -, hb5⟩
  have HB5 := Lib.hid (HB4.out.trans (hb5.mono hs4))
  have hs5 := HB5.out.size
  clear hb5
  simp only
  go_wp2_with fail
  refine (known_any _).mono ?_
  rintro e w6 ⟨rfl, hb6⟩
  have HB6 := Lib.hid (HB5.out.trans (hb6.mono hs5))
  clear hb6
  go_wp2_with fail
  go_ret
  exact ⟨rfl, HB6.out⟩
open Go.WideShapes Go.ChangeShapes in
theorem open_byte {H : Type} {enc : TypeId × Value → H} {W : World} {v : Value} {d : DataW H} {p : List MemPlace} {b : Nat} (hv : Value.okWide Try.prog W .any b 5 v) (h : DataW.Trod enc Try.prog W 0 (fun _ => true) true 5 v d p) : ∃ c : UInt8, v = .int .u8 c.toNat := by
  obtain ⟨m, rfl⟩ := okWide_int Try.underlying5 hv
  obtain ⟨fuel, hf⟩ := h
  obtain ⟨n, e, -, hw⟩ := DataW.trod_int Try.underlying5 hf
  have hmn : m = n := by simpa [Value.cells] using e
  subst hmn
  have := wf_u8 hw
  refine ⟨UInt8.ofNat m.toNat, ?_⟩
  congr 1
  simp only [UInt8.toNat_ofNat']
  omega
namespace FrameSeesLift
open Go.ChangeShapes Go.WideShapes Go.ChangeAt Go.RowKit Go.Joins Go.Deep
open Go.ChangeMaps (open_string shut_string)

theorem own : ownKnob Try.prog.godebug = none := by kernel_rfl
theorem laidOut : laidOutB Try.prog = true := by kernel_rfl

set_option maxHeartbeats 1000000 in
set_option maxRecDepth 100000 in
theorem lifted (os : Os) (started : os.Started) (H : Type) (enc : TypeId × Value → H) :
    ReturnsInHanded {} Try.checked os 3 .any (Rows.frameSeesSpec.pre6 enc Try.prog Try.f3 Rows.frameSeesRow.domain false) (Rows.frameSeesSpec.post enc Try.prog Try.f3 false true false false) := by
  refine returnsInHanded_of_change_sized (C := Try.checked) own started (by kernel_rfl) Try.func3
    (ChangeSpec.witness6 (enc := enc) (C := Try.checked) false ⟨#[], #[.slice none 0 0, .slice none 0 0, .int .i64 0, .int .u8 0], []⟩ 8 (by kernel_rfl) (by kernel_rfl) (by kernel_rfl) (by kernel_rfl)) ?_
  intro W base args ds gs before hval0 hW hcnd hsz0 _
  have hval : ∀ (j : Nat) t v, Try.f3.params[j]? = some t → args[j]? = some v → Value.okWide Try.prog W .any base t v := hval0
  have hW' := hW
  obtain ⟨p, q, hA0, hV, rfl, hfz, hnd⟩ := hW
  have hA : DataW.TrodAll enc Try.prog W 0 (fun _ => true) true Try.f3.params.toList args.toList ds p := hA0
  have hsz : (DataW.weightsEach Try.prog (Try.f3.params.toList ++ Rows.frameSeesSpec.plain.varTypes Try.prog) (ds ++ gs)).all (· ≤ reachBytes) = true := hsz0
  rw [Try.params3] at hA hval hsz
  obtain ⟨v0, vs0, d0, ds0, p0, q0, hargs, rfl, rfl, h0, r0⟩ := trodAll_cons hA
  obtain ⟨v1, vs1, d1, ds1, p1, q1, rfl, rfl, rfl, h1, r1⟩ := trodAll_cons r0
  obtain ⟨v2, vs2, d2, ds2, p2, q2, rfl, rfl, rfl, h2, r2⟩ := trodAll_cons r1
  obtain ⟨v3, vs3, d3, ds3, p3, q3, rfl, rfl, rfl, h3, r3⟩ := trodAll_cons r2
  obtain ⟨rfl, rfl, rfl⟩ := trodAll_nil r3
  obtain rfl : args = #[v0, v1, v2, v3] := by cases args; simp_all
  obtain ⟨rfl, rfl⟩ := trodVars_none hV
  have k0 := h0
  have lt0 : ∀ x ∈ p0, x.block < W.heap.size := by obtain ⟨m, hm⟩ := k0; exact DataW.trod_lt m _ _ _ hm
  have k1 := h1
  have lt1 : ∀ x ∈ p1, x.block < W.heap.size := by obtain ⟨m, hm⟩ := k1; exact DataW.trod_lt m _ _ _ hm
  have k2 := h2
  have lt2 : ∀ x ∈ p2, x.block < W.heap.size := by obtain ⟨m, hm⟩ := k2; exact DataW.trod_lt m _ _ _ hm
  have k3 := h3
  have lt3 : ∀ x ∈ p3, x.block < W.heap.size := by obtain ⟨m, hm⟩ := k3; exact DataW.trod_lt m _ _ _ hm
  have post : ∀ e W', e = Ending.returned (.bool true) → Below W.heap.size W W' → ∃ v, e = .returned v ∧ Rows.frameSeesSpec.post enc Try.prog Try.f3 false true false false W #[v0, v1, v2, v3] v W' := by
    intro e W' he bel
    subst he
    exact ⟨_, rfl, _, _, _, [], _, [], hW', trodAll_mk1 (shut_bool Try.underlying4 _), (trodAll_cons_mk (Below.trod laidOut (by kernel_rfl) (of_decide_eq_true (by kernel_rfl)) k0 bel lt0) (trodAll_cons_mk (Below.trod laidOut (by kernel_rfl) (of_decide_eq_true (by kernel_rfl)) k1 bel lt1) (trodAll_cons_mk (Below.trod laidOut (by kernel_rfl) (of_decide_eq_true (by kernel_rfl)) k2 bel lt2) (trodAll_cons_mk (Below.trod laidOut (by kernel_rfl) (of_decide_eq_true (by kernel_rfl)) k3 bel lt3) trodAll_mk0)))), rfl, bel.frame _, fun h => by cases h⟩
  clear hW' hcnd hfz hnd hA0 hA hval0
  have hb1 : Try.prog.bytesOf 5 = 1 := by kernel_rfl
  obtain ⟨ao, p, ca, rfl, hpc, hpm, hpn, hpa⟩ := open_bytes (hval 0 22 v0 rfl rfl) h0
  obtain ⟨bo, q, cb, rfl, hqc, hqm, hqn, hqa⟩ := open_bytes (hval 1 22 v1 rfl rfl) h1
  obtain ⟨at_, rfl⟩ := okWide_int Try.underlying3 (hval 2 3 v2 rfl rfl)
  obtain ⟨by_, rfl⟩ := open_byte (hval 3 5 v3 rfl rfl) h3
  have ra := slice_reach hsz (j := 0) rfl rfl Try.underlying22 k0
  have rb := slice_reach hsz (j := 1) rfl rfl Try.underlying22 k1
  rw [hb1, Nat.mul_one] at ra rb
  unfold maxLen at hpm hqm
  exact (sees_walk ao bo ca cb p q at_ by_ W ⟨hpc, by omega, hpn, hpa⟩ ⟨hqc, by omega, hqn, hqa⟩ ra rb).mono fun e W' ⟨he, bel⟩ => post e W' he bel

theorem over : Rows.frameSeesRow.holds Try.pinned (OpenSpec.ofChange Rows.frameSeesSpec) :=
  OpenClaim.holds_of_wide 3 Try.f3 rfl rfl rfl rfl rfl rfl rfl ⟨rfl, rfl, rfl, rfl, rfl⟩ rfl rfl rfl rfl rfl (by kernel_rfl) Try.func3 (by kernel_rfl)
    (of_decide_eq_true (by kernel_rfl)) (by unfold Func.isWrapper; first | (rw [if_pos (by decide +kernel)]; kernel_rfl) | (rw [if_neg (by decide +kernel)]; exact ⟨rfl, rfl⟩))
    (fun os started H enc _ => lifted os started H enc)
end FrameSeesLift

/-- The statement. -/
theorem frameSees_holds : Rows.FrameSeesSaid := FrameSeesLift.over
#print axioms frameSees_holds
end Go.Proofs.Ytgbhbhmjolihnaa
