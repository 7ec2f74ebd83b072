/- WireSpoilt: of a word of which one byte is another one nothing is read. It holds of all arguments, without a condition. -/
import Derived.Test.YthlcmjgdilebeaaPcEx
import Derived.Test.YthlcmjgdilebeaaRows
namespace Go.Proofs.Ythlcmjgdilebeaa
set_option maxRecDepth 20000
open Go.RowKit

theorem intMaskW (x : Int) : ∃ m : Nat, bits .and .i64 x 1073741823 = m ∧ m ≤ 1073741823 := by
  refine ⟨(BitVec.ofInt 64 x &&& BitVec.ofInt 64 1073741823).toNat, ?_, ?_⟩
  · show IntKind.i64.wrap ((BitVec.ofInt 64 x &&& BitVec.ofInt 64 1073741823).toNat : Int) = _
    have h : (BitVec.ofInt 64 x &&& BitVec.ofInt 64 1073741823).toNat ≤ 1073741823 := by
      rw [BitVec.toNat_and]; exact Nat.and_le_right
    rw [IntKind.wrap_i64]; omega
  · rw [BitVec.toNat_and]; exact Nat.and_le_right
theorem one_spoilt (p : List UInt8) (hp : p.length ≤ 1048576) (i : Nat) (hi : i < (F.frameB p).length) (c : UInt8) (hc : c ≠ (F.frameB p)[i]) : (F.oneB ((F.frameB p).set i c)).2 ≠ 0 := by
  have h := F.dec_spoilt p [] hp i hi c hc
  rw [List.append_nil] at h
  unfold F.oneB
  obtain ⟨d, n, k, e⟩ : ∃ d n k, F.decB ((F.frameB p).set i c) = (d, n, k) := ⟨_, _, _, rfl⟩
  rw [e] at h ⊢
  simp only at h ⊢
  split
  · rename_i h2; exact absurd h2.1 h
  · exact h
theorem ownC_set {w : World} {base g cap : Nat} {l : List UInt8} (h : OwnC w base (some ⟨g, 0, none⟩) cap l) (k : Nat) (hk : k < l.length) (x : UInt8) : F.Sl (w.setCell ⟨g, k, none⟩ (.int .u8 (x.toNat : Int))) (some ⟨g, 0, none⟩) cap (l.set k x) := by
  have hle := h.le
  have hat := h.at
  refine ⟨by rw [List.length_set]; exact hle.1, hle.2, fun e => (nomatch e), fun _ => ?_⟩
  obtain ⟨b, off, e, hb, hr⟩ := hat (by omega)
  simp only [Option.some.injEq, Addr.mk.injEq] at e
  obtain ⟨rfl, rfl, -⟩ := e
  refine ⟨g, 0, rfl, by simp [World.setCell]; exact hb, fun i hi => ?_⟩
  rw [List.length_set] at hi
  have hc := hr i hi
  rw [Nat.zero_add] at hc ⊢
  by_cases e : i = k
  · subst e
    rw [World.cell?_setCell_same w ⟨g, i, none⟩ _ hc, List.getElem_set_self]
  · rw [List.getElem_set_ne (fun h => e h.symm), ← hc]
    exact World.cell?_setCell_other w ⟨g, k, none⟩ ⟨g, i, none⟩ _ (fun h => e (by simpa using (congrArg Addr.off h).symm))
set_option maxHeartbeats 8000000 in
theorem spoilt_walk {d : Wd} {V : Array Value} (ao bo : Option Addr) (zc bc : Nat) (hV : V = wdV d (.slice ao d.mp.zs.length zc) (.slice bo d.data.length bc)) (at_ : Int) (by_ : UInt8) (w : World) (hz : O.ZsAt w ao d.mp.zs) (hzl : d.mp.zs.length ≤ 9223372036854775807) (hsl : F.Sl w bo bc d.data) :
    Calls Try.prog 5 #[.agg V, .int .i64 at_, .int .u8 by_.toNat] w fun e w' => e = .returned (.bool true) ∧ Below w.heap.size w w' := by
  have HV := Lib.hid hV
  have HZ := Lib.hid hz
  have Hsl := Lib.hid hsl
  have hs : V.size = 37 := by rw [hV]; rfl
  have Hdl : Hid (d.data.length ≤ 9223372036854775807) := Lib.hid (by have := hsl.le; have := hsl.cm; omega)
  clear hV hz hsl
  go_enter Try.func5, Try.ntmps5
  refine wp_hold fun C HC => ?_
  go_wp2_with fail
  refine wp_name fun wa hwa => ?_
  obtain ⟨B, hB⟩ : ∃ B, B = w.heap.size := ⟨_, rfl⟩
  have S : Hid (St w wa [thObj B (.cells V 40 (0, 0))]) := by rw [hwa]; exact Lib.hid ((St.start w).objN _ B hB)
  rw [← hB]
  clear hwa hB
  (have hC := HC.out); clear HC; subst hC
  refine wp_hold fun C HC => ?_
  refine wp_seq ?_
  refine wp_seq ?_
  refine wp_region_lit ?_
  (refine wpList_load_row rfl 40 _ rfl (B) rfl _ _ _ _ (S.out.head) Try.underlying40 rfl (by rw [hs]; kernel_rfl) ?_)
  ((refine list_hold 2 fun L HL => ?_); simp only [List.take_succ_cons, List.take_zero, List.cons_append, List.nil_append]; (go_wp2_with fail))
  refine (heavyW_any HV.out ao bo zc bc rfl rfl wa (HZ.out.grow S.out.b) hzl Hdl.out).mono ?_
  rintro e w1 ⟨hb1, he⟩
  have S := Lib.hid (S.out.grow hb1)
  clear hb1
  rcases he with rfl | ⟨rfl, hli, -⟩
  · go_wp2_with fail
    ((have hL := HL.out); clear HL; subst hL; simp only [List.drop_succ_cons, List.drop_zero])
    go_wp2_with fail
    go_ret
    exact ⟨rfl, S.out.b⟩
  have HL1 := Lib.hid hli
  clear hli
  go_wp2_with fail
  ((have hL := HL.out); clear HL; subst hL; simp only [List.drop_succ_cons, List.drop_zero])
  by_cases hby : by_ = 0
  · have hbe : ((by_.toNat : Int) == 0) = true := by rw [hby]; rfl
    clear hby
    go_wp2_with fail
    go_ret
    exact ⟨rfl, S.out.b⟩
  have hbe : ((by_.toNat : Int) == 0) = false := by
    rw [beq_eq_false_iff_ne]
    exact fun h => hby (UInt8.toNat_inj.1 (by rw [UInt8.toNat_zero]; omega))
  have Hby := Lib.hid hby
  clear hby
  go_wp2_with fail
  (have hC := HC.out); clear HC; subst hC
  refine wp_hold fun C HC => ?_
  refine wp_seq ?_
  refine wp_region_lit ?_
  (refine wpList_load_row rfl 40 _ rfl (B) rfl _ _ _ _ (S.out.head) Try.underlying40 rfl (by rw [hs]; kernel_rfl) ?_)
  go_wp2_with fail
  refine (wenc_any HV.out ao bo zc bc rfl rfl w1 (HZ.out.grow S.out.b) (Hsl.out.grow S.out.b) HL1.out).mono ?_
  rintro e w3 ⟨hb3, he⟩
  have hB1 : B < w1.heap.size := (S.out.cellsN 0 rfl).1
  have hW1 := S.out.b.size
  have S := Lib.hid (S.out.grow hb3)
  clear hb3
  cases hm : mayW d with
  | false =>
    rw [if_neg (by rw [hm]; simp)] at he
    subst he
    have Hm := Lib.hid hm
    clear hm
    go_wp2_with fail
    (have hC := HC.out); clear HC; subst hC
    refine wp_hold fun C HC => ?_
    refine wp_seq ?_
    refine wp_hold fun C5 HC5 => ?_
    go_wp2_with fail
    (have hC := HC5.out); clear HC5; subst hC
    refine wp_cond_true rfl ?_
    refine wp_seq ?_
    refine wp_region_lit ?_
    ((refine list_hold 3 fun L HL => ?_); simp only [List.take_succ_cons, List.take_zero, List.cons_append, List.nil_append]; (go_wp2_with fail))
    ((have hL := HL.out); clear HL; subst hL; simp only [List.drop_succ_cons, List.drop_zero])
    (refine wpList_load_rowG (by rfl) 40 _ rfl (B) rfl _ _ _ _ (S.out.head) Try.underlying40 rfl (by rw [hs]; kernel_rfl) ?_)
    go_wp2_with fail
    refine (like_any HV.out _).mono ?_
    (rintro e w5 ⟨rfl, hbb⟩; (have S := Lib.hid (S.out.grow hbb)); clear hbb)
    go_wp2_with fail
    refine (rmayW_any HV.out ao bo zc bc rfl rfl w5 (HZ.out.grow S.out.b) (Hsl.out.grow S.out.b).at_ (by have := HL1.out.mp.1; omega)).mono ?_
    (rintro e w6 ⟨rfl, hbb⟩; (have S := Lib.hid (S.out.grow hbb)); clear hbb)
    rw [docW_eq, Hm.out]
    go_wp2_with fail
    refine (knownW_any _).mono ?_
    (rintro e w7 ⟨rfl, hbb⟩; (have S := Lib.hid (S.out.grow hbb)); clear hbb)
    go_wp2_with fail
    go_ret
    exact ⟨rfl, S.out.b⟩
  | true =>
    rw [if_pos hm] at he
    obtain ⟨xo, xc, rfl, ho⟩ := he
    have hfl : (encW d).length = (wdB d).length + 12 := F.frameB_length _
    have hwl := wdB_length hm HL1.out
    obtain ⟨f, hf⟩ : ∃ f, f = encW d := ⟨_, rfl⟩
    rw [← hf] at ho hfl ⊢
    obtain ⟨g, hg, rfl⟩ : ∃ g, w1.heap.size ≤ g ∧ xo = some ⟨g, 0, none⟩ := by
      rcases ho with ⟨-, h2, -⟩ | ⟨g, zs, h1, h2, -⟩
      · rw [h2] at hfl; simp at hfl
      · exact ⟨g, h2, h1⟩
    have Hf := Lib.hid hf
    have Ho := Lib.hid ho
    obtain ⟨n, hn⟩ : ∃ n, n = f.length := ⟨_, rfl⟩
    rw [← hn] at hfl ⊢
    have Hn := Lib.hid hn
    have hnl : n ≤ 141000 := by omega
    have hn0 : ((n : Int) == 0) = false := by rw [beq_eq_false_iff_ne]; omega
    have hnp : 0 < n := by omega
    have Hfl := Lib.hid hfl
    have hcap : n ≤ xc := by have := ho.le; omega
    clear hm hf ho hn hfl hwl
    go_wp2_with fail
    (have hC := HC.out); clear HC; subst hC
    refine wp_hold fun C HC => ?_
    go_wp2_with fail
    (have hC := HC.out); clear HC; subst hC
    refine wp_hold fun C HC => ?_
    obtain ⟨m, hmask, hm30⟩ := intMaskW at_
    obtain ⟨k, hk⟩ : ∃ k : Nat, k = m % n := ⟨_, rfl⟩
    have hk1 : ((m : Int) % (n : Int)) = k := by rw [hk]; rfl
    have hk2 : ((m : Int).tmod (n : Int)) = k := by rw [Int.tmod_eq_emod_of_nonneg (by omega)]; exact hk1
    have hklt : k < n := hk ▸ Nat.mod_lt _ (by omega)
    have hklt2 : (k : Int) < n := by omega
    have hkf : k < f.length := by rw [← Hn.out]; exact hklt
    have hnz : ¬ (n : Int) = 0 := by omega
    have hcell : w3.cell? ⟨g, k, none⟩ = some (.int .u8 (f[k].toNat : Int)) := by
      obtain ⟨b, off, e, -, hr⟩ := Ho.out.at (by omega)
      simp only [Option.some.injEq, Addr.mk.injEq] at e
      obtain ⟨rfl, rfl, -⟩ := e
      have := hr k hkf
      rwa [Nat.zero_add] at this
    have hfrz : w3.frozen? ⟨g, k, none⟩ = false := by
      rcases Ho.out with ⟨h, -⟩ | ⟨g', zs, h1, -, -, -, -, -, -, h8⟩
      · cases h
      · simp only [Option.some.injEq, Addr.mk.injEq] at h1
        obtain ⟨rfl, -⟩ := h1
        exact h8 k (by omega)
    obtain ⟨dd, hd⟩ : ∃ dd, dd = f[k]'hkf := ⟨_, rfl⟩
    rw [← hd] at hcell
    have hxb := xor_byte dd by_
    obtain ⟨x, hx⟩ : ∃ x, x = dd ^^^ by_ := ⟨_, rfl⟩
    have hxd : x ≠ f[k]'hkf := by rw [hx, ← hd]; exact xor_other dd by_ Hby.out
    rw [← hx] at hxb
    have hrec : (F.oneB (f.set k x)).2 ≠ 0 := by
      obtain rfl := Hf.out
      exact one_spoilt (wdB d) (by have := Hfl.out; omega) k hkf x hxd
    have Hrec := Lib.hid hrec
    have Hkf := Lib.hid hkf
    clear hk hd hx hxd hrec hkf hm30
    go_wp2_with fail
    refine wp_name fun w4 hw4 => ?_
    have S4 : Hid (St w w4 [thObj B (.cells V 40 (0, 0))]) := by
      rw [hw4]
      exact Lib.hid ⟨S.out.b.setCell (by show w.heap.size ≤ g; omega) _, S.out.t.keep (Keeps.set w3 ⟨g, k, none⟩ _) (fun t ht y hy e => by
        obtain rfl := List.mem_singleton.1 ht
        have h1 : y = B := hy
        have h2 : y = g := e
        omega)⟩
    have Hx4 : Hid (F.Sl w4 (some ⟨g, 0, none⟩) xc (f.set k x)) := by
      rw [hw4]
      exact Lib.hid (ownC_set Ho.out k Hkf.out x)
    clear hw4 S hcell hfrz Ho hxb hk1 hk2 hmask
    (have hC := HC.out); clear HC; subst hC
    have hsl : (f.set k x).length = n := by rw [List.length_set, Hn.out]
    have hdec := decode_bad (some ⟨g, 0, none⟩) xc (f.set k x) w4 Hx4.out (by omega) Hrec.out
    rw [hsl] at hdec
    have Hdec := Lib.hid hdec
    clear hsl hdec Hx4
    refine wp_hold fun C HC => ?_
    refine wp_seq ?_
    refine wp_region_lit ?_
    ((refine list_hold 6 fun L HL => ?_); simp only [List.take_succ_cons, List.take_zero, List.cons_append, List.nil_append]; (go_wp2_with fail))
    refine Hdec.out.mono ?_
    rintro e w5 ⟨c, hc0, rfl, hb5⟩
    have S := Lib.hid (S4.out.grow hb5)
    have hcI : (c != 0) = true := by rw [bne_iff_ne]; exact hc0
    clear hb5 S4 Hdec hc0
    obtain ⟨Q, hQ⟩ : ∃ Q, Q = wdV zWd (.slice none 0 0) (.slice none 0 0) := ⟨_, rfl⟩
    have hsQ : Q.size = 37 := by rw [hQ]; rfl
    have honeQ : Q.all (·.oneCell') = true := by rw [hQ]; simp [wdV, Value.oneCell']
    rw [← hQ]
    have HQ := Lib.hid hQ
    clear hQ
    go_wp2_with fail
    refine list_name fun w6 hw6 => ?_
    obtain ⟨P, hP⟩ : ∃ P, P = w5.heap.size := ⟨_, rfl⟩
    have S6 : Hid (St w w6 [thObj P (.cells #[.int .i64 0, .int .i64 0, .int .i64 0, .int .i64 0, .int .i64 0, .int .i64 0, .int .i64 0, .int .i64 0, .string ⟨#[]⟩, .string ⟨#[]⟩, .int .i64 0, .int .i64 0, .int .i64 0, .string ⟨#[]⟩, .string ⟨#[]⟩, .string ⟨#[]⟩, .string ⟨#[]⟩, .int .i64 0, .int .i64 0, .int .i64 0, .bool false, .int .i64 0, .int .i64 0, .int .i64 0, .int .i64 0, .int .i64 0, .int .i64 0, .int .i64 0, .int .i64 0, .int .i64 0, .slice none 0 0, .int .i64 0, .int .i64 0, .int .i64 0, .int .i64 0, .string ⟨#[]⟩, .slice none 0 0] 40 (0, 0)), thObj B (.cells V 40 (0, 0))]) := by rw [hw6]; exact Lib.hid (S.out.objN _ P hP)
    rw [← hP]
    clear hw6 hP S
    ((have hL := HL.out); clear HL; subst hL; simp only [List.drop_succ_cons, List.drop_zero])
    refine wpList_store_row rfl 40 _ _ rfl P Q rfl rfl 40 _ S6.out.head (by rw [hsQ]; kernel_rfl) (by rw [hsQ]; rfl) honeQ ?_
    have S := Lib.hid (S6.out.setRow37 Q)
    clear S6
    refine list_name fun w7 hw7 => ?_
    rw [← hw7] at S
    clear hw7
    go_wp2_with fail
    (have hC := HC.out); clear HC; subst hC
    refine wp_seq ?_
    refine wp_region_lit ?_
    ((refine list_hold 3 fun L HL => ?_); simp only [List.take_succ_cons, List.take_zero, List.cons_append, List.nil_append]; (go_wp2_with fail))
    ((have hL := HL.out); clear HL; subst hL; simp only [List.drop_succ_cons, List.drop_zero])
    (refine wpList_load_rowG (by rfl) 40 _ rfl (P) rfl _ _ _ _ (S.out.head) Try.underlying40 rfl (by rw [hsQ]; kernel_rfl) ?_)
    go_wp2_with fail
    refine (like_any HQ.out _).mono ?_
    (rintro e w8 ⟨rfl, hbb⟩; (have S := Lib.hid (S.out.grow hbb)); clear hbb)
    go_wp2_with fail
    refine (sameW_any HQ.out zWd_eq.symm none none none none 0 0 0 0 rfl rfl rfl rfl w8 (zs_nil _) (zs_nil _) (ba_nil _) (ba_nil _) (by decide)).mono ?_
    (rintro e w9 ⟨rfl, hbb⟩; (have S := Lib.hid (S.out.grow hbb)); clear hbb)
    rw [show sameWd zWd zWd = true from by decide +kernel]
    go_wp2_with fail
    refine (knownW_any _).mono ?_
    (rintro e w10 ⟨rfl, hbb⟩; (have S := Lib.hid (S.out.grow hbb)); clear hbb)
    go_wp2_with fail
    go_ret
    exact ⟨rfl, S.out.b⟩
open Go.WideShapes Go.ChangeShapes in
theorem open_byteW {H : Type} {enc : TypeId × Value → H} {W : World} {v : Value} {d : DataW H} {p : List MemPlace} {b : Nat} (hv : Value.okWide Try.prog W .any b 5 v) (h : DataW.Trod enc Try.prog W 0 (fun _ => true) true 5 v d p) : ∃ c : UInt8, v = .int .u8 c.toNat := by
  obtain ⟨m, rfl⟩ := okWide_int Try.underlying5 hv
  obtain ⟨fuel, hf⟩ := h
  obtain ⟨n, e, -, hw⟩ := DataW.trod_int Try.underlying5 hf
  have hmn : m = n := by simpa [Value.cells] using e
  subst hmn
  have := wf_u8 hw
  refine ⟨UInt8.ofNat m.toNat, ?_⟩
  congr 1
  simp only [UInt8.toNat_ofNat']
  omega
namespace WireSpoiltLift
open Go.ChangeShapes Go.WideShapes Go.ChangeAt Go.RowKit Go.Joins Go.Deep
open Go.ChangeMaps (open_string shut_string)

theorem own : ownKnob Try.prog.godebug = none := by kernel_rfl
theorem laidOut : laidOutB Try.prog = true := by kernel_rfl

set_option maxHeartbeats 1000000 in
set_option maxRecDepth 100000 in
theorem lifted (os : Os) (started : os.Started) (H : Type) (enc : TypeId × Value → H) :
    ReturnsInHanded {} Try.checked os 5 .any (Rows.wireSpoiltSpec.pre6 enc Try.prog Try.f5 Rows.wireSpoiltRow.domain false) (Rows.wireSpoiltSpec.post enc Try.prog Try.f5 false true false false) := by
  refine returnsInHanded_of_change_sized (C := Try.checked) own started (by kernel_rfl) Try.func5
    (ChangeSpec.witness6 (enc := enc) (C := Try.checked) false ⟨#[], #[.agg #[.int .i64 0, .int .i64 0, .int .i64 0, .int .i64 0, .int .i64 0, .int .i64 0, .int .i64 0, .int .i64 0, .string ⟨#[]⟩, .string ⟨#[]⟩, .int .i64 0, .int .i64 0, .int .i64 0, .string ⟨#[]⟩, .string ⟨#[]⟩, .string ⟨#[]⟩, .string ⟨#[]⟩, .int .i64 0, .int .i64 0, .int .i64 0, .bool false, .int .i64 0, .int .i64 0, .int .i64 0, .int .i64 0, .int .i64 0, .int .i64 0, .int .i64 0, .int .i64 0, .int .i64 0, .slice none 0 0, .int .i64 0, .int .i64 0, .int .i64 0, .int .i64 0, .string ⟨#[]⟩, .slice none 0 0], .int .i64 0, .int .u8 0], []⟩ 8 (by kernel_rfl) (by kernel_rfl) (by kernel_rfl) (by kernel_rfl)) ?_
  intro W base args ds gs before hval0 hW hcnd hsz0 _
  have hval : ∀ (j : Nat) t v, Try.f5.params[j]? = some t → args[j]? = some v → Value.okWide Try.prog W .any base t v := hval0
  have hW' := hW
  obtain ⟨p, q, hA0, hV, rfl, hfz, hnd⟩ := hW
  have hA : DataW.TrodAll enc Try.prog W 0 (fun _ => true) true Try.f5.params.toList args.toList ds p := hA0
  have hsz : (DataW.weightsEach Try.prog (Try.f5.params.toList ++ Rows.wireSpoiltSpec.plain.varTypes Try.prog) (ds ++ gs)).all (· ≤ reachBytes) = true := hsz0
  rw [Try.params5] at hA hval hsz
  obtain ⟨v0, vs0, d0, ds0, p0, q0, hargs, rfl, rfl, h0, r0⟩ := trodAll_cons hA
  obtain ⟨v1, vs1, d1, ds1, p1, q1, rfl, rfl, rfl, h1, r1⟩ := trodAll_cons r0
  obtain ⟨v2, vs2, d2, ds2, p2, q2, rfl, rfl, rfl, h2, r2⟩ := trodAll_cons r1
  obtain ⟨rfl, rfl, rfl⟩ := trodAll_nil r2
  obtain rfl : args = #[v0, v1, v2] := by cases args; simp_all
  obtain ⟨rfl, rfl⟩ := trodVars_none hV
  have k0 := h0
  have lt0 : ∀ x ∈ p0, x.block < W.heap.size := by obtain ⟨m, hm⟩ := k0; exact DataW.trod_lt m _ _ _ hm
  have k1 := h1
  have lt1 : ∀ x ∈ p1, x.block < W.heap.size := by obtain ⟨m, hm⟩ := k1; exact DataW.trod_lt m _ _ _ hm
  have k2 := h2
  have lt2 : ∀ x ∈ p2, x.block < W.heap.size := by obtain ⟨m, hm⟩ := k2; exact DataW.trod_lt m _ _ _ hm
  have post : ∀ e W', e = Ending.returned (.bool true) → Below W.heap.size W W' → ∃ v, e = .returned v ∧ Rows.wireSpoiltSpec.post enc Try.prog Try.f5 false true false false W #[v0, v1, v2] v W' := by
    intro e W' he bel
    subst he
    exact ⟨_, rfl, _, _, _, [], _, [], hW', trodAll_mk1 (shut_bool Try.underlying4 _), (trodAll_cons_mk (Below.trod laidOut (by kernel_rfl) (of_decide_eq_true (by kernel_rfl)) k0 bel lt0) (trodAll_cons_mk (Below.trod laidOut (by kernel_rfl) (of_decide_eq_true (by kernel_rfl)) k1 bel lt1) (trodAll_cons_mk (Below.trod laidOut (by kernel_rfl) (of_decide_eq_true (by kernel_rfl)) k2 bel lt2) trodAll_mk0))), rfl, bel.frame _, fun h => by cases h⟩
  clear hW' hcnd hfz hnd hA0 hA hval0
  obtain ⟨d, ao, zc, bo, bc, rfl, hm1, hm2, hm3, hb1, hb2, hb3, hb4⟩ := open_word (hval 0 40 v0 rfl rfl) h0
  obtain ⟨at_, rfl⟩ := okWide_int Try.underlying3 (hval 1 3 v1 rfl rfl)
  obtain ⟨by_, rfl⟩ := open_byteW (hval 2 5 v2 rfl rfl) h2
  exact (spoilt_walk ao bo zc bc rfl at_ by_ W hm3 (by unfold maxLen at hm2; omega) ⟨hb1, by unfold maxLen at hb2; omega, hb3, hb4⟩).mono fun e W' ⟨he, bel⟩ => post e W' he bel

theorem over : Rows.wireSpoiltRow.holds Try.pinned (OpenSpec.ofChange Rows.wireSpoiltSpec) :=
  OpenClaim.holds_of_wide 5 Try.f5 rfl rfl rfl rfl rfl rfl rfl ⟨rfl, rfl, rfl, rfl, rfl⟩ rfl rfl rfl rfl rfl (by kernel_rfl) Try.func5 (by kernel_rfl)
    (of_decide_eq_true (by kernel_rfl)) (by unfold Func.isWrapper; first | (rw [if_pos (by decide +kernel)]; kernel_rfl) | (rw [if_neg (by decide +kernel)]; exact ⟨rfl, rfl⟩))
    (fun os started H enc _ => lifted os started H enc)
end WireSpoiltLift

/-- The statement. -/
theorem wireSpoilt_holds : Rows.WireSpoiltSaid := WireSpoiltLift.over
#print axioms wireSpoilt_holds
end Go.Proofs.Ythlcmjgdilebeaa

