/- NetOnce: a message is spoilt in one byte, once; doubles made ahead and behind. -/
import Derived.Test.YtcboflabjdiadaaFullLaw
namespace Go.Proofs.Ytcboflabjdiadaa
open Go.ChangeShapes Go.WideShapes Go.Deep Go.RowKit
open Go.ChangeMaps (open_string shut_string)

theorem max_eq_right0 {a : Int} (h : 0 ≤ a) : max 0 a = a := by omega
theorem spoil_cy {W w : World} {p : Nat} {C : List Ct} {R : List Th} (h : NetAt W w p C R) (pick at_ : Int) (y : UInt8) (i : Nat) (hi : i < C.length) (hpi : i = pickOf C.length pick) (c : Ct) (hc : C[i] = c) (hy : y ≠ 0) (hb : c.2.2.1.length ≠ 0) (hs : c.2.2.2 = false) (C' : List Ct) (hC : C' = C.set i (spc c (pickOf c.2.2.1.length at_) y)) :
    Calls Try.prog 19 #[.pointer (some ⟨p, 0, none⟩), .int .i64 pick, .int .i64 at_, .int .u8 (y.toNat : Int)] w fun e w' => e = .returned (.bool true) ∧ NetAt W w' p C' R := by
  refine (spoil_ct h pick at_ y i hi hpi).mono ?_
  rintro e w' ⟨rfl, hN⟩
  have : spoilC C i hi at_ y = (true, C') := by
    unfold spoilC
    rw [hc, if_neg (by rintro (h | h | h); exact hy h; exact hb h; rw [hs] at h; cases h), hC]
  rw [this] at hN ⊢
  exact ⟨rfl, hN⟩
theorem spoil_cn {W w : World} {p : Nat} {C : List Ct} {R : List Th} (h : NetAt W w p C R) (pick at_ : Int) (y : UInt8) (i : Nat) (hi : i < C.length) (hpi : i = pickOf C.length pick) (hs : C[i].2.2.2 = true) :
    Calls Try.prog 19 #[.pointer (some ⟨p, 0, none⟩), .int .i64 pick, .int .i64 at_, .int .u8 (y.toNat : Int)] w fun e w' => e = .returned (.bool false) ∧ NetAt W w' p C R := by
  refine (spoil_ct h pick at_ y i hi hpi).mono ?_
  rintro e w' ⟨rfl, hN⟩
  have : spoilC C i hi at_ y = (false, C) := by
    unfold spoilC
    rw [if_pos (.inr (.inr hs))]
  rw [this] at hN ⊢
  exact ⟨rfl, hN⟩
theorem give_c {W w : World} {p : Nat} {C : List Ct} {R : List Th} (f t : Int) (l : List UInt8) (s : Bool) (h : NetAt W w p ((f, t, l, s) :: C) R) :
    Calls Try.prog 13 #[.pointer (some ⟨p, 0, none⟩), .int .i64 0] w fun e w' => ∃ ao cap, e = .returned (.tuple #[.agg #[.int .i64 f, .int .i64 t, .slice ao l.length cap], .bool true]) ∧ NetAt W w' p C (thOwn W.heap.size ao cap l :: R) := by
  refine (give_ct h 0 0 (by simp) (by simp [pickOf])).mono ?_
  rintro e w' ⟨ao, cap, rfl, -, hN⟩
  exact ⟨ao, cap, rfl, hN⟩
theorem NetAt.own {W w w' : World} {p : Nat} {C : List Ct} {R : List Th} (h : NetAt W w p C R) (b : Below w.heap.size w w') {ao : Option Addr} {cap : Nat} {l : List UInt8} (ho : OwnB w' w.heap.size ao cap l) : NetAt W w' p C (thOwn w.heap.size ao cap l :: R) := by
  obtain ⟨ro, rc, L, h1, h2, h3, h4⟩ := h
  exact ⟨ro, rc, L, h1, h2, h3, (h4.own b ho).perm List.perm_middle.symm⟩
theorem NetAt.stepR {W w w' : World} {p : Nat} {C : List Ct} {R : List Th} {t : Th} (h : NetAt W w p C (t :: R)) (k : Keeps w w' t.F) (t' : Th) (ht : t'.T w') (hF : ∀ x, t'.F x → t.F x ∨ w.heap.size ≤ x) : NetAt W w' p C (t' :: R) := by
  obtain ⟨ro, rc, L, h1, h2, h3, h4⟩ := h
  exact ⟨ro, rc, L, h1, h2, h3, (h4.pull.step k t' ht hF).perm List.perm_middle.symm⟩
theorem NetAt.apart {W w : World} {p : Nat} {C : List Ct} {R : List Th} {t u : Th} (h : NetAt W w p C (t :: R)) (hu : u ∈ R) (x : Nat) (hx : t.F x) : ¬ u.F x := by
  obtain ⟨ro, rc, L, h1, h2, h3, h4⟩ := h
  exact h4.pull.t.2.2.1 u (List.mem_append.2 (.inr hu)) x hx
theorem same_n (n m : Nat) (ao bo : Option Addr) (ca cb : Nat) (a b : List UInt8) (w : World) (hn : n = a.length) (hm : m = b.length) (ha : BAt w ao a) (hb : BAt w bo b) (h1 : a.length ≤ 9223372036854775807) (h2 : b.length ≤ 9223372036854775807) (r : Bool) (hr : r = (a == b)) :
    Calls Try.prog 20 #[.slice ao n ca, .slice bo m cb] w fun e w' => e = .returned (.bool r) ∧ Below w.heap.size w w' := by
  subst hn hm hr; exact same_any ao bo ca cb a b w ha hb h1 h2
theorem NetAt.bat {W w : World} {p : Nat} {C : List Ct} {R : List Th} (h : NetAt W w p C R) {base : Nat} {ao : Option Addr} {cap : Nat} {l : List UInt8} (ht : thOwn base ao cap l ∈ R) : BAt w ao l := (show OwnB w base ao cap l from h.mem ht).at
theorem NetAt.cells {W w : World} {p : Nat} {C : List Ct} {R : List Th} (h : NetAt W w p C R) {b : Nat} {cur : Array Value} {t : TypeId} (ht : thObj b (.cells cur t (0, 0)) ∈ R) (j : Nat) (v : Value) (hv : cur[j]? = some v) : w.cell? ⟨b, j, none⟩ = some v := by
  rw [(cells_of_obj (h.mem ht)).1 j, hv]
set_option maxRecDepth 100000 in
set_option maxHeartbeats 4000000 in
theorem once_any (ao : Option Addr) (cap : Nat) (b : List UInt8) (at_ : Int) (y z : UInt8) (w : World) (h0 : ao = none → b.length = 0 ∧ cap = 0) (ha : BAt w ao b) (hc : b.length ≤ 9223372036854775807) :
    Calls Try.prog 6 #[.slice ao b.length cap, .int .i64 at_, .int .u8 (y.toNat : Int), .int .u8 (z.toNat : Int)] w fun e w' => e = .returned (.bool true) ∧ Below w.heap.size w w' := by
  by_cases hno : b.length < 1 ∨ 1000 < b.length ∨ y = 0 ∨ z = 0 ∨ at_ < 0
  · have hgo : ∀ (d1 d2 d3 d4 d5 : Bool), decide ((b.length : Int) < 1) = d1 → decide ((1000 : Int) < b.length) = d2 → ((y.toNat : Int) == 0) = d3 → ((z.toNat : Int) == 0) = d4 → decide (at_ < 0) = d5 → (d1 || d2 || d3 || d4 || d5) = true →
        Calls Try.prog 6 #[.slice ao b.length cap, .int .i64 at_, .int .u8 (y.toNat : Int), .int .u8 (z.toNat : Int)] w fun e w' => e = .returned (.bool true) ∧ Below w.heap.size w w' := by
      intro d1 d2 d3 d4 d5 e1 e2 e3 e4 e5 hd
      clear h0 ha hno
      go_enter Try.func6, Try.ntmps6
      cases d1 <;> cases d2 <;> cases d3 <;> cases d4 <;> cases d5 <;> first
        | (exfalso; revert hd; decide)
        | (clear hd
           go_wp2_with fail
           refine (known_any _).mono ?_
           rintro e w1 ⟨rfl, hb1⟩
           go_wp2_with fail
           go_ret
           exact ⟨rfl, hb1⟩)
        | fail
    refine hgo _ _ _ _ _ rfl rfl rfl rfl rfl ?_
    simp only [Bool.or_eq_true, decide_eq_true_eq, beq_iff_eq]
    rcases hno with h | h | h | h | h
    · exact .inl (.inl (.inl (.inl (by omega))))
    · exact .inl (.inl (.inl (.inr (by omega))))
    · subst h; exact .inl (.inl (.inr rfl))
    · subst h; exact .inl (.inr rfl)
    · exact .inr h
  · have hl1 : 1 ≤ b.length := by omega
    have hl2 : b.length ≤ 1000 := by omega
    have hy : y ≠ 0 := fun h => hno (.inr (.inr (.inl h)))
    have hz : z ≠ 0 := fun h => hno (.inr (.inr (.inr (.inl h))))
    have d1 : decide ((b.length : Int) < 1) = false := by rw [decide_eq_false_iff_not]; omega
    have d2 : decide ((1000 : Int) < b.length) = false := by rw [decide_eq_false_iff_not]; omega
    have d3 : ((y.toNat : Int) == 0) = false := by rw [beq_eq_false_iff_ne]; exact fun e => hy (UInt8.toNat_inj.1 (by simpa using e))
    have d4 : ((z.toNat : Int) == 0) = false := by rw [beq_eq_false_iff_ne]; exact fun e => hz (UInt8.toNat_inj.1 (by simpa using e))
    obtain ⟨m, rfl⟩ : ∃ m : Nat, at_ = m := ⟨at_.toNat, by omega⟩
    have d5 : decide ((m : Int) < 0) = false := by rw [decide_eq_false_iff_not]; omega
    obtain ⟨n, hn⟩ : ∃ n, n = b.length := ⟨_, rfl⟩
    obtain ⟨k, hk⟩ : ∃ k, k = pickOf b.length (m : Int) := ⟨_, rfl⟩
    obtain ⟨s, hs⟩ : ∃ s, s = b.set k ((b[k]?.getD 0) ^^^ y) := ⟨_, rfl⟩
    have hkl : k < b.length := hk ▸ pickOf_lt (by omega) (m : Int)
    have hsl : s.length = b.length := by rw [hs, List.length_set]
    obtain ⟨i0, hi, hz0, hz1, hz2⟩ := info_parts byteInfo
    have H0 := Lib.hid h0
    have Ha := Lib.hid ha
    have Hk := Lib.hid hk
    have Hs := Lib.hid hs
    have Hsl := Lib.hid hsl
    have Hy := Lib.hid hy
    have Hz := Lib.hid hz
    have Hkl := Lib.hid hkl
    have Hl1 := Lib.hid hl1
    have Hl2 := Lib.hid hl2
    have Hn := Lib.hid hn
    rw [← hn] at d1 d2 ⊢
    clear h0 ha hk hs hsl hy hz hkl hno hl1 hl2 hn hc
    go_enter Try.func6, Try.ntmps6
    go_wp2_with fail
    refine (new_any w).mono ?_
    rintro e w1 ⟨rfl, hw1⟩
    have HN1 : Hid (NetAt w w1 w.heap.size [] []) := by rw [hw1]; exact NetAt.new w
    clear hw1
    go_wp2_with fail
    have N2 := HN1.out.objN (.cells #[.int .i64 0, .int .i64 1, .slice ao n cap] 35) _ rfl
    refine (send_ct N2 (some ⟨w1.heap.size, 0, none⟩) 1 [⟨0, 1, ao, cap, b, false⟩] (fun w' X hS => ?_) (by simp) 1 rfl 1 (by decide)).mono ?_
    · have t1 : (thObj w1.heap.size _).T w' := hS.mem (List.mem_append.2 (.inr (List.mem_cons_self ..)))
      refine msAt_obj t1 _ (by rw [Hn.out]; rfl) fun m hm => ?_
      obtain rfl : m = _ := by simpa using hm
      exact ⟨H0.out, Ha.out.below hS.b, by have := Hl2.out; show b.length ≤ _; omega, rfl⟩
    rintro e w2 ⟨rfl, hN2⟩
    have HN2 : Hid (NetAt w w2 w.heap.size [(0, 1, b, false)] []) := hN2.drop
    clear N2 hN2 HN1
    go_wp2_with fail
    refine (twice_ct HN2.out 0 0 (by simp) (by simp [pickOf]) (by simp)).mono ?_
    rintro e w3 ⟨rfl, hN⟩
    have HN3 : Hid (NetAt w w3 w.heap.size [(0, 1, b, false), (0, 1, b, false)] []) := hN
    clear hN HN2
    go_wp2_with fail
    refine (spoil_cy HN3.out 0 (m : Int) y 0 (by simp) (by simp [pickOf]) (0, 1, b, false) rfl Hy.out (by have := Hl1.out; show b.length ≠ 0; omega) rfl [(0, 1, s, true), (0, 1, b, false)] (by rw [Hs.out, Hk.out]; rfl)).mono ?_
    rintro e w4 ⟨rfl, hN⟩
    have HN4 := Lib.hid hN
    clear hN HN3
    go_wp2_with fail
    refine (spoil_cn HN4.out 0 (m : Int) z 0 (by simp) (by simp [pickOf]) rfl).mono ?_
    rintro e w5 ⟨rfl, hN⟩
    have HN5 := Lib.hid hN
    clear hN HN4
    go_wp2_with fail
    refine (twice_ct HN5.out 0 0 (by simp) (by simp [pickOf]) (by simp)).mono ?_
    rintro e w6 ⟨rfl, hN⟩
    have HN6 : Hid (NetAt w w6 w.heap.size [(0, 1, s, true), (0, 1, b, false), (0, 1, s, true)] []) := hN
    clear hN HN5
    go_wp2_with fail
    refine (spoil_cn HN6.out 2 (m : Int) z 2 (by simp) (by show 2 = pickOf 3 2; decide) rfl).mono ?_
    rintro e w7 ⟨rfl, hN⟩
    have HN7 := Lib.hid hN
    clear hN HN6
    go_wp2_with fail
    refine (give_c 0 1 s true HN7.out).mono ?_
    rintro e w8 ⟨xo, xc, rfl, hN⟩
    have HN8 := Lib.hid (hN.objN (.cells #[.int .i64 0, .int .i64 1, .slice xo s.length xc] 35) _ rfl)
    clear hN HN7
    go_wp2_with fail
    refine (give_c 0 1 b false HN8.out).mono ?_
    rintro e w9 ⟨yo, yc, rfl, hN⟩
    have HN9 := Lib.hid (hN.objN (.cells #[.int .i64 0, .int .i64 1, .slice yo b.length yc] 35) _ rfl)
    clear hN HN8
    go_wp2_with fail
    refine (give_c 0 1 s true HN9.out).mono ?_
    rintro e w10 ⟨zo, zc, rfl, hN⟩
    have HN10 := Lib.hid (hN.objN (.cells #[.int .i64 0, .int .i64 1, .slice zo s.length zc] 35) _ rfl)
    clear hN HN9
    have hbl : b.length ≤ 140737488351232 := by have := Hl2.out; omega
    have Hba : Hid (∀ w', Below w.heap.size w w' → BAt w' ao b) := fun w' hb => Ha.out.below hb
    go_wp2_with (at_builtin; go_must (refine wpList_append_any _ rfl (.tmp 93) (.tmp 94) 33 rfl (w10.heap.size + 1) 5 i0 (.int .u8 0) 1 1 Try.underlying33 hi hz0 hz1 hz2 rfl (by decide) _ 0 [] rfl (owns_emptyAt _ (w10.heap.size + 1) (by simp) (w10.heap.size + 1) (Nat.le_refl _) 5 1) ao n cap (bytV b) rfl (by rw [Hn.out]; exact H0.out) (by rw [bytV_length, Nat.mul_one, Hn.out]) (Hba.out _ (HN10.out.b.alloc HN10.out.b.size _)).cells (bytV_one b) (by unfold maxLen; rw [Hn.out]; omega) (by rw [Hn.out]; omega) (by simp) ?_))
    intro v w11 hown hgrow
    have hb11 : Below (w10.alloc (.cells #[.int .i64 0, .int .i64 1, .slice zo s.length zc] 35)).heap.size (w10.alloc (.cells #[.int .i64 0, .int .i64 1, .slice zo s.length zc] 35)) w11 := below_grown ((Below.refl _ _).alloc (Nat.le_refl _) _) (by simp) hgrow (fun k hk => by simp [Value.ownBlock] at hk; simp; omega)
    obtain ⟨bo, c11, hv, ho⟩ := owned_bytes (l := b) (by simpa using hown) (by simpa using Hn.out)
    obtain ⟨g, rfl, hgb, hglt, hrow⟩ := ho.row (by have := Hl1.out; omega)
    have HN11 := Lib.hid (HN10.out.own hb11 (own_weak ho (by simp)))
    have g8 : ¬ w8.heap.size = g := fun e => HN11.out.apart (u := thObj w8.heap.size (.cells #[.int .i64 0, .int .i64 1, .slice xo s.length xc] 35 (0, 0))) (by simp) g ⟨_, rfl, rfl⟩ e.symm
    have g9 : ¬ w9.heap.size = g := fun e => HN11.out.apart (u := thObj w9.heap.size (.cells #[.int .i64 0, .int .i64 1, .slice yo b.length yc] 35 (0, 0))) (by simp) g ⟨_, rfl, rfl⟩ e.symm
    have g10 : ¬ w10.heap.size = g := by omega
    have q8 := HN11.out.cells (b := w8.heap.size) (cur := #[.int .i64 0, .int .i64 1, .slice xo s.length xc]) (t := 35) (by simp) 2 _ rfl
    have q9 := HN11.out.cells (b := w9.heap.size) (cur := #[.int .i64 0, .int .i64 1, .slice yo b.length yc]) (t := 35) (by simp) 2 _ rfl
    have q10 := HN11.out.cells (b := w10.heap.size) (cur := #[.int .i64 0, .int .i64 1, .slice zo s.length zc]) (t := 35) (by simp) 2 _ rfl
    have kb := hrow k Hkl.out
    rw [Nat.zero_add] at kb
    have kf : w11.frozen? ⟨g, k, none⟩ = false := by simpa using World.ownsRow.frozenAt ho k
    obtain ⟨d, hd⟩ : ∃ d, d = b[k]'Hkl.out := ⟨_, rfl⟩
    rw [← hd] at kb
    obtain ⟨x, hx⟩ : ∃ x, x = d ^^^ y := ⟨_, rfl⟩
    have hxb := xor_byteN d y
    rw [← hx] at hxb
    have hn0 : ¬ (n : Int) = 0 := by have := Hn.out; have := Hl1.out; omega
    have hn00 : ¬ n = 0 := by omega
    have hkn : k < n := by rw [Hn.out]; exact Hkl.out
    have hkn2 : (k : Int) < n := by omega
    have hk' : k = m % n := by rw [Hk.out, Hn.out]; unfold pickOf; rw [max_eq_right0 (by omega)]; rfl
    have hem : (m : Int) % (n : Int) = k := by rw [hk']; rfl
    have htm : (m : Int).tmod (n : Int) = k := by rw [Int.tmod_eq_emod_of_nonneg (by omega)]; exact hem
    have Hk2 := Lib.hid hk'
    clear hk'
    have hst : b.set k x = s := by rw [Hs.out, List.getElem?_eq_getElem Hkl.out, hx, hd]; rfl
    have Hst := Lib.hid hst
    have Hok := Lib.hid ho
    rw [hv]
    rw [← Hn.out]
    rw [Hsl.out, ← Hn.out] at q8 q10
    rw [← Hn.out] at q9
    clear hown hgrow hb11 ho hrow hd hx hst hv HN10 hbl
    go_wp2_with fail
    go_still_tail 15, (by kernel_rfl)
    change wpList _ _ _ _ _ (World.drew _)
    go_wp2_with fail
    have hsl2 : s.length = n := by rw [Hsl.out, Hn.out]
    have HS2 := Lib.hid hsl2
    have HN12 := Lib.hid ((HN11.out.stepR ((Keeps.set w11 ⟨g, k, none⟩ (.int .u8 (x.toNat : Int))).weak (T := fun z => ∃ a : Addr, some (⟨g, 0, none⟩ : Addr) = some a ∧ a.block = z) (fun _ _ e => ⟨_, rfl, e.symm⟩)) (thOwn 0 (some ⟨g, 0, none⟩) c11 s) (by
      have := own_stored Hok.out k x
      rw [Hst.out] at this
      exact own_weak this (Nat.zero_le _)) (fun x hx => .inl hx)).grow (Below.refl _ _).drew)
    have hl3 : s.length ≤ 9223372036854775807 := by have := Hsl.out; have := Hl2.out; omega
    have hl4 : b.length ≤ 9223372036854775807 := by have := Hl2.out; omega
    clear hsl2 HN11 q8 q9 q10 kb kf g8 g9 g10
    refine (same_n n n xo (some ⟨g, 0, none⟩) xc c11 s s _ HS2.out.symm HS2.out.symm (HN12.out.bat (base := w.heap.size) (cap := xc) (by simp)) (HN12.out.bat (base := 0) (cap := c11) (by simp)) hl3 hl3 true (by rw [beq_self_eq_true])).mono ?_
    rintro e w12 ⟨rfl, hb⟩
    have HN13 := Lib.hid (HN12.out.grow hb)
    have q9 := HN13.out.cells (b := w9.heap.size) (cur := #[.int .i64 0, .int .i64 1, .slice yo b.length yc]) (t := 35) (by simp) 2 _ rfl
    rw [← Hn.out] at q9
    clear hb HN12
    go_wp2_with fail
    refine (same_n n n yo ao yc cap b b _ Hn.out Hn.out (HN13.out.bat (base := w.heap.size) (cap := yc) (by simp)) (Ha.out.below HN13.out.b) hl4 hl4 true (by rw [beq_self_eq_true])).mono ?_
    rintro e w13 ⟨rfl, hb⟩
    have HN14 := Lib.hid (HN13.out.grow hb)
    have q10 := HN14.out.cells (b := w10.heap.size) (cur := #[.int .i64 0, .int .i64 1, .slice zo s.length zc]) (t := 35) (by simp) 2 _ rfl
    rw [HS2.out] at q10
    clear hb HN13 q9
    go_wp2_with fail
    refine (same_n n n zo (some ⟨g, 0, none⟩) zc c11 s s _ HS2.out.symm HS2.out.symm (HN14.out.bat (base := w.heap.size) (cap := zc) (by simp)) (HN14.out.bat (base := 0) (cap := c11) (by simp)) hl3 hl3 true (by rw [beq_self_eq_true])).mono ?_
    rintro e w14 ⟨rfl, hb⟩
    have HN15 := Lib.hid (HN14.out.grow hb)
    clear hb HN14 q10
    go_wp2_with fail
    refine (len_cn HN15.out 0 rfl).mono ?_
    rintro e w15 ⟨rfl, rfl⟩
    go_wp2_with fail
    refine (known_any _).mono ?_
    rintro e w16 ⟨rfl, hb⟩
    have hb6 := HN15.out.b.trans (hb.mono HN15.out.b.size)
    clear hb
    go_wp2_with fail
    go_ret
    exact ⟨rfl, hb6⟩

theorem open_byte {H : Type} {enc : TypeId × Value → H} {W : World} {v : Value} {d : DataW H} {p : List MemPlace} {b : Nat} (hv : Value.okWide Try.prog W .any b 5 v) (h : DataW.Trod enc Try.prog W 0 (fun _ => true) true 5 v d p) : ∃ c : UInt8, v = .int .u8 c.toNat := by
  obtain ⟨m, rfl⟩ := okWide_int Try.underlying5 hv
  obtain ⟨fuel, hf⟩ := h
  obtain ⟨n, e, -, hw⟩ := DataW.trod_int Try.underlying5 hf
  have hmn : m = n := by simpa [Value.cells] using e
  subst hmn
  have := wf_u8 hw
  refine ⟨UInt8.ofNat m.toNat, ?_⟩
  congr 1
  simp only [UInt8.toNat_ofNat']
  omega
namespace NetOnceLift
open Go.ChangeShapes Go.WideShapes Go.ChangeAt Go.RowKit Go.Joins Go.Deep
open Go.ChangeMaps (open_string shut_string)

theorem own : ownKnob Try.prog.godebug = none := by kernel_rfl
theorem laidOut : laidOutB Try.prog = true := by kernel_rfl

set_option maxHeartbeats 1000000 in
set_option maxRecDepth 100000 in
theorem lifted (os : Os) (started : os.Started) (H : Type) (enc : TypeId × Value → H) :
    ReturnsInHanded {} Try.checked os 6 .any (Rows.netOnceSpec.pre6 enc Try.prog Try.f6 Rows.netOnceRow.domain false) (Rows.netOnceSpec.post enc Try.prog Try.f6 false true false false) := by
  refine returnsInHanded_of_change (C := Try.checked) own started (by kernel_rfl) Try.func6
    (ChangeSpec.witness6 (enc := enc) (C := Try.checked) false ⟨#[], #[.slice none 0 0, .int .i64 0, .int .u8 0, .int .u8 0], []⟩ 8 (by kernel_rfl) (by kernel_rfl) (by kernel_rfl) (by kernel_rfl)) ?_
  intro W base args ds gs before hval0 hW hcnd _
  have hval : ∀ (j : Nat) t v, Try.f6.params[j]? = some t → args[j]? = some v → Value.okWide Try.prog W .any base t v := hval0
  have hW' := hW
  obtain ⟨p, q, hA0, hV, rfl, hfz, hnd⟩ := hW
  have hA : DataW.TrodAll enc Try.prog W 0 (fun _ => true) true Try.f6.params.toList args.toList ds p := hA0
  rw [Try.params6] at hA hval
  obtain ⟨v0, vs0, d0, ds0, p0, q0, hargs, rfl, rfl, h0, r0⟩ := trodAll_cons hA
  obtain ⟨v1, vs1, d1, ds1, p1, q1, rfl, rfl, rfl, h1, r1⟩ := trodAll_cons r0
  obtain ⟨v2, vs2, d2, ds2, p2, q2, rfl, rfl, rfl, h2, r2⟩ := trodAll_cons r1
  obtain ⟨v3, vs3, d3, ds3, p3, q3, rfl, rfl, rfl, h3, r3⟩ := trodAll_cons r2
  obtain ⟨rfl, rfl, rfl⟩ := trodAll_nil r3
  obtain rfl : args = #[v0, v1, v2, v3] := by cases args; simp_all
  obtain ⟨rfl, rfl⟩ := trodVars_none hV
  have k0 := h0
  have lt0 : ∀ x ∈ p0, x.block < W.heap.size := by obtain ⟨m, hm⟩ := k0; exact DataW.trod_lt m _ _ _ hm
  have k1 := h1
  have lt1 : ∀ x ∈ p1, x.block < W.heap.size := by obtain ⟨m, hm⟩ := k1; exact DataW.trod_lt m _ _ _ hm
  have k2 := h2
  have lt2 : ∀ x ∈ p2, x.block < W.heap.size := by obtain ⟨m, hm⟩ := k2; exact DataW.trod_lt m _ _ _ hm
  have k3 := h3
  have lt3 : ∀ x ∈ p3, x.block < W.heap.size := by obtain ⟨m, hm⟩ := k3; exact DataW.trod_lt m _ _ _ hm
  have post : ∀ e W', e = Ending.returned (.bool true) → Below W.heap.size W W' → ∃ v, e = .returned v ∧ Rows.netOnceSpec.post enc Try.prog Try.f6 false true false false W #[v0, v1, v2, v3] v W' := by
    intro e W' he bel
    subst he
    exact ⟨_, rfl, _, _, _, [], _, [], hW', trodAll_mk1 (shut_bool Try.underlying4 _), (trodAll_cons_mk (Below.trod laidOut (by kernel_rfl) (of_decide_eq_true (by kernel_rfl)) k0 bel lt0) (trodAll_cons_mk (Below.trod laidOut (by kernel_rfl) (of_decide_eq_true (by kernel_rfl)) k1 bel lt1) (trodAll_cons_mk (Below.trod laidOut (by kernel_rfl) (of_decide_eq_true (by kernel_rfl)) k2 bel lt2) (trodAll_cons_mk (Below.trod laidOut (by kernel_rfl) (of_decide_eq_true (by kernel_rfl)) k3 bel lt3) trodAll_mk0)))), rfl, bel.frame _, fun h => by cases h⟩
  clear hW' hcnd hfz hnd hA0 hA hval0
  obtain ⟨ao, l, cap, rfl, hlc, hcm, hnone, hat⟩ := open_bytes (hval 0 33 v0 rfl rfl) h0
  obtain ⟨fuel1, hf1⟩ := h1
  obtain ⟨n, e1, -, -⟩ := DataW.trod_int Try.underlying3 hf1
  obtain rfl : v1 = .int .i64 n := by
    have := okWide_int Try.underlying3 (hval 1 3 v1 rfl rfl)
    obtain ⟨m, rfl⟩ := this
    simpa [Value.cells] using e1
  obtain ⟨y, rfl⟩ := open_byte (hval 2 5 v2 rfl rfl) h2
  obtain ⟨z, rfl⟩ := open_byte (hval 3 5 v3 rfl rfl) h3
  exact (once_any ao cap l n y z W hnone hat (by unfold maxLen at hcm; omega)).mono fun e W' ⟨he, bel⟩ => post e W' he bel

theorem over : Rows.netOnceRow.holds Try.pinned (OpenSpec.ofChange Rows.netOnceSpec) :=
  OpenClaim.holds_of_wide 6 Try.f6 rfl rfl rfl rfl rfl rfl rfl ⟨rfl, rfl, rfl, rfl, rfl⟩ rfl rfl rfl rfl rfl (by kernel_rfl) Try.func6 (by kernel_rfl)
    (of_decide_eq_true (by kernel_rfl)) (by unfold Func.isWrapper; first | (rw [if_pos (by decide +kernel)]; kernel_rfl) | (rw [if_neg (by decide +kernel)]; exact ⟨rfl, rfl⟩))
    (fun os started H enc _ => lifted os started H enc)
end NetOnceLift

/-- The statement. -/
theorem netOnce_holds : Rows.NetOnceSaid := NetOnceLift.over
#print axioms netOnce_holds
end Go.Proofs.Ytcboflabjdiadaa
