/- A byte appended to bytes of the library's; contracts of the laws' rows and known, of the document's Encode. -/
import Derived.Test.YtgbhbhmjolihnaaFrScan
import Derived.ArgAppend
import Derived.Lib.SmallJoins
namespace Go.Proofs.Ytgbhbhmjolihnaa
open Go.RowKit Go.Joins

theorem wpList_append_c {ops : Array Oper} {rest : List Oper} {o : Oper} {a : Act} {Q : Exit → Act → World → Prop} (w : World) (hgd : o.guard = none) (s x : Operand)
    (ho : o.op = .call { callee := .builtin .append, args := #[s, x], argTypes := #[22, 22] }) (base : Nat) (ao : Option Addr) (cap : Nat) (l : List UInt8) (n : Nat) (hn : n = l.length) (hs : a.eval s = .slice ao n cap) (hC : OwnC w base ao cap l) (hp : 0 < l.length)
    (y : UInt8) (m : Int) (hy : m = (y.toNat : Int)) (hx : a.eval x = .slice (some ⟨w.heap.size, 0, none⟩) 1 1) (hb : base ≤ w.heap.size) (hm : l.length ≤ 140737488351232)
    (h : ∀ co c' w', Sl w' co c' (l ++ [y]) → Below base w w' → wpList Try.prog ops Q rest (a.put o.dst (.slice co (n + 1) c')) w') : wpList Try.prog ops Q (o :: rest) a (w.alloc (.cells #[.int .u8 m] 5)) := by
  subst hn hy
  obtain ⟨i0, hi, hz0, hz1, hz2⟩ := info_parts byteInfo
  have hle := hC.le
  rcases hC with ⟨-, rfl, -⟩ | ⟨g, zs, rfl, hbg, h1, h2, h3, h4, h5, h6⟩
  · simp at hp
  have hglt : g < w.heap.size := by
    have h0 := h5 0 (by omega)
    rcases Nat.lt_or_ge g w.heap.size with h | h
    · exact h
    · simp [World.cell?, Array.getElem?_eq_none h] at h0
  have hrow : BRow w g 0 l := fun j hj => by
    rw [Nat.zero_add, h5 j (by omega)]
    have : l[j] = (zs.take l.length)[j]'(by rw [List.length_take]; omega) := by simp only [h4]
    rw [this, List.getElem_take]
  have bal := below_allocF w (.cells #[.int .u8 (y.toNat : Int)] 5)
  have hrow1 : BRow (w.alloc (.cells #[.int .u8 (y.toNat : Int)] 5)) g 0 l := hrow.below hglt bal
  refine wpList_append_arg _ hgd s x 22 ho 5 i0 (.int .u8 0) 1 1 Try.underlying22 hi hz0 hz1 hz2 rfl (by decide) g 0 l.length cap (bytV l) hs (by rw [bytV_length, Nat.mul_one]) (fun j u hu => by have := hrow1.cells j u hu; rwa [add_none] at this) ⟨w.heap.size, 0, none⟩ 1 1 (bytV [y]) hx rfl (fun j u hu => one_cell _ _ _ _ rfl _ rfl j u hu) (bytV_one _) ?_ (by unfold maxLen; omega) (by omega) ?_ ?_
  · intro hc j hj
    have hj0 : j = 0 := by simpa [bytV] using hj
    subst hj0
    have e1 : (⟨g, 0 + l.length * 1 + 0, none⟩ : Addr) = ⟨g, l.length, none⟩ := by simp
    rw [e1, bal.cell (p := ⟨g, l.length, none⟩) hglt, bal.frozen (p := ⟨g, l.length, none⟩) hglt, h5 l.length (by omega)]
    exact ⟨rfl, h6 _ (by omega)⟩
  · intro hc
    have e1 : 0 + l.length * 1 = l.length := by simp
    rw [e1]
    refine h _ _ _ ⟨by simp; omega, hle.2, fun h => (nomatch h), fun _ => ⟨g, 0, rfl, by simp [bytV, World.setCells, World.setCell]; omega, fun i hi => ?_⟩⟩ ((bal.mono hb).trans ?_)
    · simp only [List.length_append, List.length_cons, List.length_nil] at hi
      rw [Nat.zero_add]
      show ((w.alloc (.cells #[.int .u8 (y.toNat : Int)] 5)).setCell ⟨g, l.length, none⟩ (.int .u8 (y.toNat : Int))).cell? ⟨g, i, none⟩ = _
      by_cases e : i = l.length
      · subst e
        have h9 : (w.alloc (.cells #[.int .u8 (y.toNat : Int)] 5)).cell? ⟨g, l.length, none⟩ = some (.int .u8 (zs[l.length].toNat : Int)) := (bal.cell (p := ⟨g, l.length, none⟩) hglt).trans (h5 l.length (by omega))
        rw [World.cell?_setCell_same _ _ _ h9]
        simp
      · rw [World.cell?_setCell_other _ ⟨g, l.length, none⟩ ⟨g, i, none⟩ _ (fun h => e (congrArg Addr.off h).symm), List.getElem_append_left (by omega)]
        have := hrow1 i (by omega)
        rwa [Nat.zero_add] at this
    · exact (Below.refl _ _).setCell hbg _
  · intro hgr v w1 hown hgrow
    have hb1 : Below w.heap.size w w1 := below_grown bal (by simp) hgrow (fun k hk => by cases hk)
    obtain ⟨bo, c2, hv, ho⟩ := owned_bytes (l := l ++ [y]) (by rw [← bytV_append]; exact hown) (by simp)
    rw [hv]
    have hll : (l ++ [y]).length = l.length + 1 := by simp
    have hh := h bo c2 w1 ho.sl (hb1.mono hb)
    rw [hll]
    exact hh
theorem same_yes (ao bo : Option Addr) (ca cb : Nat) (a : List UInt8) (w : World) (ha : BAt w ao a) (hb : BAt w bo a) (hm : a.length ≤ 9223372036854775807) :
    Calls Try.prog 12 #[.slice ao a.length ca, .slice bo a.length cb] w fun e w' => e = .returned (.bool true) ∧ Below w.heap.size w w' := by
  have := same_any ao bo ca cb a a w ha hb hm hm
  simpa only [beq_self_eq_true] using this
set_option maxHeartbeats 2000000 in
theorem rows_yes (ao bo : Option Addr) (ca cb : Nat) (A B : List RowR) (D E : Nat → Prop) (w : World) (hA : RsAt w D ao A) (hB : RsAt w E bo B) (he : A.map (·.bs) = B.map (·.bs)) (hm : A.length ≤ 9223372036854775807) :
    Calls Try.prog 15 #[.slice ao A.length ca, .slice bo B.length cb] w fun e w' => e = .returned (.bool true) ∧ Below w.heap.size w w' := by
  have hl : B.length = A.length := by have := congrArg List.length he; simpa using this.symm
  rw [hl]
  have hrow : ∀ i, (hi : i < A.length) → ∃ b off c off' ro rc so sc rb, ao = some ⟨b, off, none⟩ ∧ bo = some ⟨c, off', none⟩ ∧ b < w.heap.size ∧ c < w.heap.size ∧ w.cell? ⟨b, off + i, none⟩ = some (.slice ro (rb : List UInt8).length rc) ∧ w.cell? ⟨c, off' + i, none⟩ = some (.slice so rb.length sc) ∧ rb.length ≤ 9223372036854775807 ∧ BAt w ro rb ∧ BAt w so rb := by
    intro i hi
    obtain ⟨b, off, e1, h1, -, r1⟩ := hA (by omega)
    obtain ⟨c, off', e2, h2, -, r2⟩ := hB (by omega)
    have a1 := r1 i hi
    have a2 := r2 i (by omega)
    have hbs : B[i].bs = A[i].bs := by
      have h5 := congrArg (fun l => l[i]?) he
      simp only [List.getElem?_map, List.getElem?_eq_getElem hi, List.getElem?_eq_getElem (show i < B.length by omega), Option.map_some, Option.some.injEq] at h5
      exact h5.symm
    have h6 := a2.c
    have h7 := a2.at_.at
    rw [hbs] at h6 h7
    exact ⟨b, off, c, off', A[i].ao, A[i].cap, B[i].ao, B[i].cap, A[i].bs, e1, e2, h1, h2, a1.c, h6, by have := a1.le; have := a1.cm; omega, a1.at_.at, h7⟩
  have Hrow := Lib.hid hrow
  clear hrow hA hB he hl
  go_enter Try.func15, Try.ntmps15
  go_wp2_with fail
  go_loopw [5] (fun s5 wr => ∃ k : Nat, s5 = .int .i64 k ∧ k ≤ A.length ∧ Hid (Below w.heap.size w wr)) (fun s5 _ => A.length - (intOf s5).toNat)
  case atStart => exact ⟨0, rfl, by omega, Below.refl _ _⟩
  case round =>
    obtain ⟨k, rfl, hk, HB⟩ := hrel
    have hs := HB.out.size
    by_cases hlt : k < A.length
    · obtain ⟨b, off, c, off', ro, rc, so, sc, rb, rfl, rfl, h1, h2, c1, c2, h3, h4, h5⟩ := Hrow.out k hlt
      have d1 := (HB.out.cell (p := ⟨b, off + k, none⟩) h1).trans c1
      have d2 := (HB.out.cell (p := ⟨c, off' + k, none⟩) h2).trans c2
      have Hs := Lib.hid (fun W (hW : Below w.heap.size w W) => same_yes ro so rc sc rb W (h4.below hW) (h5.below hW) h3)
      have C12 := Lib.hid (⟨c1, c2⟩ : _ ∧ _)
      have hk0 : (0 : Int) ≤ k := by omega
      have hkA : (k : Int) < A.length := by omega
      clear c1 c2 h4 h5
      go_wp2_with fail
      go_region_held3 (fun w' => w'.cell? ⟨b, off + k, none⟩ = some (.slice ro rb.length rc) ∧ w'.cell? ⟨c, off' + k, none⟩ = some (.slice so rb.length sc)) (go_keep) ((go_at_call 12; refine (Hs.out _ HB.out.drew).mono ?_; rintro e y1 ⟨rfl, hb1⟩; have B1 := HB.out.drew.trans (hb1.mono hs); have e1 := (B1.cell (p := ⟨b, off + k, none⟩) h1).trans C12.out.1; have e2 := (B1.cell (p := ⟨c, off' + k, none⟩) h2).trans C12.out.2; have HB1 := Lib.hid B1; clear B1 hb1))
      go_wp2_with fail
      go_roundw
      case rel => exact ⟨k + 1, by go_num, by omega, HB1⟩
      case measure => simp [intOf]; omega
    · go_wp2_with fail
      go_ret
      exact ⟨rfl, HB.out⟩
theorem below_alloc2 {B : Nat} {w w1 : World} (h : Below B w w1) (hB : B ≤ w1.heap.size) (o : Obj) : Below B w (w1.alloc o) := h.alloc hB _
theorem dec_x : decB (frameB [120] ++ [1]) = ([120], 13, 0) := dec_frame [120] [1] (by decide)
set_option maxHeartbeats 2000000 in
theorem known_any (w : World) : Calls Try.prog 10 #[] w fun e w' => e = .returned (.bool true) ∧ Below w.heap.size w w' := by
  have kc := const_bytes
  have hlit := bat_lit w _ rfl [120] 5 (1, 2)
  have hx : Sl (w.alloc (.cells #[.int .u8 120] 5 (1, 2))) (some ⟨w.heap.size, 0, none⟩) 1 [120] := ⟨by decide, by decide, fun h => (nomatch h), hlit⟩
  have Hx := Lib.hid hx
  clear hlit hx
  go_enter Try.func10, Try.ntmps10
  go_wp2_with fail
  have henc := encode_any (some ⟨w.heap.size + 1, 0, none⟩) 1 [⟨some ⟨w.heap.size, 0, none⟩, 1, [120]⟩] _ _ (rs_one Hx.out 22 (w.heap.size + 1) (by simp)) (by simp) (by simp) (by rw [flat_one1]; decide)
  rw [flat_one1] at henc
  refine henc.mono ?_
  rintro e w1 ⟨ao, cap, rfl, ho, hb⟩
  have Ho := Lib.hid (ownC_weak ho (show w.heap.size ≤ _ by simp only [World.alloc, Array.size_push]; omega))
  have hb' : Below w.heap.size w w1 := (((below_allocF w _).alloc (by simp) _)).trans (hb.mono (by simp only [World.alloc, Array.size_push]; omega))
  have hs1 := hb'.size
  have HB := Lib.hid hb'
  clear ho hb hb' henc Hx
  have h13 : (frameB [120]).length = 13 := by rw [frameB_length]; rfl
  simp only [h13]
  have H13 := Lib.hid h13
  clear h13
  go_wp2_with (at_builtin; go_must (refine wpList_append_c w1 rfl (.tmp 14) (.tmp 15) rfl w.heap.size ao cap (frameB [120]) 13 H13.out.symm rfl Ho.out (by rw [H13.out]; omega) 1 1 rfl rfl hs1 (by rw [H13.out]; omega) ?_))
  intro co c' w2 hsl hb2
  have h14 : (frameB [120] ++ [1]).length = 14 := by rw [List.length_append, H13.out]; rfl
  have hdec := decode_any co c' _ w2 hsl (by rw [h14]; omega)
  rw [h14, dec_x] at hdec
  have Hdec := Lib.hid hdec
  have HB2 := Lib.hid (HB.out.trans hb2)
  have hs2 := HB2.out.size
  clear hsl hb2 h14 hdec
  go_wp2_with fail
  refine Hdec.out.mono ?_
  rintro e w3 ⟨ro, rc, rfl, ho, hb3⟩
  have Ho3 := Lib.hid ho
  have HB3 := Lib.hid (HB2.out.trans (hb3.mono hs2))
  have hs3 := HB3.out.size
  clear ho hb3
  simp only
  go_wp2_with fail
  have hlit := bat_lit w3 _ rfl [120] 5 (1, 2)
  refine (same_yes ro (some ⟨w3.heap.size, 0, none⟩) rc 1 [120] _ (Ho3.out.at.below (below_allocF _ _)) hlit (by decide)).mono ?_
  rintro e w4 ⟨rfl, hb4⟩
  have HB4 := Lib.hid ((HB3.out.alloc hs3 _).trans (hb4.mono (by simp only [World.alloc, Array.size_push]; omega)))
  clear hb4
  go_wp2_with fail
  go_ret
  exact ⟨rfl, HB4.out⟩
end Go.Proofs.Ytgbhbhmjolihnaa
