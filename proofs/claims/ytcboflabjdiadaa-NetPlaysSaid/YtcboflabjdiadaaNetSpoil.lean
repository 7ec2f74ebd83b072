/- The contract of Spoil. -/
import Derived.Test.YtcboflabjdiadaaNetGive
namespace Go.Proofs.Ytcboflabjdiadaa
open Go.RowKit

theorem bits_xor_u8 (a b : Nat) (ha : a < 256) (hb : b < 256) : bits .xor .u8 (a : Int) (b : Int) = ((a ^^^ b : Nat) : Int) := by
  have hx : a ^^^ b < 2 ^ 8 := Nat.xor_lt_two_pow (by omega) (by omega)
  have h1 : (BitVec.ofInt 8 (a : Int)).toNat = a := by
    rw [BitVec.ofInt_natCast, BitVec.toNat_ofNat]; exact Nat.mod_eq_of_lt (by omega)
  have h2 : (BitVec.ofInt 8 (b : Int)).toNat = b := by
    rw [BitVec.ofInt_natCast, BitVec.toNat_ofNat]; exact Nat.mod_eq_of_lt (by omega)
  show IntKind.u8.wrap ((BitVec.ofInt 8 (a : Int) ^^^ BitVec.ofInt 8 (b : Int)).toNat : Int) = _
  rw [BitVec.toNat_xor, h1, h2, IntKind.wrap_u8]
  omega
theorem xor_byteN (c d : UInt8) : bits .xor .u8 (c.toNat : Int) (d.toNat : Int) = (((c ^^^ d).toNat : Nat) : Int) := by
  rw [bits_xor_u8 _ _ c.toNat_lt d.toNat_lt, UInt8.toNat_xor]
/-- A message of which the byte k is turned. -/
def spd (m : Ms) (k : Nat) (y : UInt8) : Ms := ⟨m.f, m.t, m.ao, m.cap, m.bs.set k ((m.bs[k]?.getD 0) ^^^ y), true⟩
theorem msR_set {l : List Ms} {i : Nat} (hi : i < l.length) {m : Ms} (hm : msV m = (msV l[i]).set 3 (.bool true)) : msR (l.set i m) = (msR l).set (i * 4 + 3) (.bool true) := by
  have e : l = l.take i ++ l[i] :: l.drop (i + 1) := by rw [← List.drop_eq_getElem_cons hi, List.take_append_drop]
  have e1 : l.set i m = l.take i ++ m :: l.drop (i + 1) := by
    rw [List.set_eq_take_append_cons_drop]; simp only [hi, if_true]
  have hl : (msR (l.take i)).length = i * 4 := by rw [msR_length, List.length_take, Nat.min_eq_left (by omega)]
  have hR : msR l = msR (l.take i) ++ (msV l[i] ++ msR (l.drop (i + 1))) := (congrArg msR e).trans (by rw [msR_append]; rfl)
  rw [e1, msR_append, hR, List.set_append_right _ _ (by omega), hl, Nat.add_sub_cancel_left, List.set_append_left _ _ (by simp [msV]), ← hm]
  simp [msR]
theorem St.drew {W w : World} {L : List Th} (h : St W w L) : St W w.drew L := h.grow (Below.refl _ _).drew
theorem St.spoilt {W w : World} {R : List Th} {p g rc bb : Nat} {l : List Ms} {i k : Nat} (h : St W w (netnetL W.heap.size p (some ⟨g, 0, none⟩) rc l ++ R)) (hi : i < l.length) (hbb : l[i].ao = some ⟨bb, 0, none⟩) (hk : k < l[i].bs.length) (y x : UInt8) (hx : x = l[i].bs[k] ^^^ y) :
    g ≠ bb ∧ St W ((w.setCell ⟨bb, k, none⟩ (.int .u8 (x.toNat : Int))).setCell ⟨g, i * 4 + 3, none⟩ (.bool true)) (netnetL W.heap.size p (some ⟨g, 0, none⟩) rc (l.set i (spd l[i] k y)) ++ R) := by
  have hp1 : List.Perm (netnetL W.heap.size p (some ⟨g, 0, none⟩) rc l ++ R) (thD W.heap.size l[i] :: (thNetnet W.heap.size p (some ⟨g, 0, none⟩) rc l :: ((l.eraseIdx i).map (thD W.heap.size) ++ R))) := by
    show List.Perm (_ :: (l.map (thD W.heap.size) ++ R)) (_ :: _ :: ((l.eraseIdx i).map (thD W.heap.size) ++ R))
    exact (List.Perm.cons _ (((erase_perm hi).map (thD W.heap.size)).append_right R)).trans (List.Perm.swap _ _ _)
  have S1 := h.perm hp1
  have hne : g ≠ bb := fun e => S1.t.2.2.1 (thNetnet W.heap.size p (some ⟨g, 0, none⟩) rc l) List.mem_cons_self bb ⟨_, hbb, rfl⟩ (.inr ⟨_, rfl, e⟩)
  refine ⟨hne, ?_⟩
  have hO : OwnB w W.heap.size (some ⟨bb, 0, none⟩) l[i].cap l[i].bs := by have := S1.head; rw [← hbb]; exact this
  have S2 := S1.step (t' := thD W.heap.size (spd l[i] k y)) ((Keeps.set w ⟨bb, k, none⟩ (.int .u8 (x.toNat : Int))).weak (T := (thD W.heap.size l[i]).F) (fun _ _ e => ⟨_, hbb, e.symm⟩)) (by
    show OwnB _ W.heap.size l[i].ao l[i].cap _
    have e : l[i].bs[k]?.getD 0 = l[i].bs[k] := by rw [List.getElem?_eq_getElem hk]; rfl
    rw [hbb]
    show OwnB _ _ _ _ (l[i].bs.set k ((l[i].bs[k]?.getD 0) ^^^ y))
    rw [e, ← hx]
    exact own_stored hO k x) (fun x hx => .inl hx)
  have S3 := S2.pull (A := [_])
  have hT : (thNetnet W.heap.size p (some ⟨g, 0, none⟩) rc l).T (w.setCell ⟨bb, k, none⟩ (.int .u8 (x.toNat : Int))) := S3.head
  have hgp : g ≠ p := hT.2.2 _ rfl
  have hlen : (l.set i (spd l[i] k y)).length = l.length := by simp
  have hst := (World.ownsRow.stored hT.2.1 (i * 4 + 3) (.bool true)).1
  have hmsv : msV (spd l[i] k y) = (msV l[i]).set 3 (.bool true) := by simp [msV, spd]
  have S4 := S3.step (t' := thNetnet W.heap.size p (some ⟨g, 0, none⟩) rc (l.set i (spd l[i] k y))) ((Keeps.set (w.setCell ⟨bb, k, none⟩ (.int .u8 (x.toNat : Int))) ⟨g, i * 4 + 3, none⟩ (.bool true)).weak (T := (thNetnet W.heap.size p (some ⟨g, 0, none⟩) rc l).F) (fun _ _ e => .inr ⟨_, rfl, e.symm⟩)) (by
    refine ⟨?_, ?_, hT.2.2⟩
    · rw [hlen, Below.heap_setCell _ _ _ _ (fun e => hgp e.symm)]; exact hT.1
    · rw [hlen, msR_set hi hmsv]; simpa using hst) (fun x hx => .inl hx)
  refine S4.perm ?_
  have hi2 : i < (l.set i (spd l[i] k y)).length := by rw [hlen]; exact hi
  have hp2 := erase_perm hi2
  rw [List.getElem_set_self, List.eraseIdx_set_eq] at hp2
  show List.Perm (_ :: _ :: ((l.eraseIdx i).map (thD W.heap.size) ++ R)) (_ :: ((l.set i (spd l[i] k y)).map (thD W.heap.size) ++ R))
  exact List.Perm.cons _ ((hp2.map (thD W.heap.size)).append_right R).symm
set_option maxRecDepth 20000 in
theorem spoil_none (q : Option Addr) (pick at_ : Int) (y : UInt8) (w : World) (hp : Calls Try.prog 26 #[.pointer q, .int .i64 pick] w fun e w'' => e = .returned (.tuple #[.int .i64 0, .bool false]) ∧ w = w'') :
    Calls Try.prog 19 #[.pointer q, .int .i64 pick, .int .i64 at_, .int .u8 (y.toNat : Int)] w fun e w' => e = .returned (.bool false) ∧ Below w.heap.size w w' := by
  have Hp := Lib.hid hp
  clear hp
  go_enter Try.func19, Try.ntmps19
  go_wp2_with fail
  refine Hp.out.mono ?_
  rintro e w1 ⟨rfl, rfl⟩
  go_wp2_with fail
  go_ret
  exact ⟨rfl, Below.refl _ _⟩
set_option maxRecDepth 20000 in
set_option maxHeartbeats 4000000 in
theorem spoil_zero (W w : World) (R : List Th) (p : Nat) (ro : Option Addr) (rc : Nat) (l : List Ms) (pick at_ : Int) (y : UInt8) (i : Nat) (hi : i < l.length) (hpi : i = pickOf l.length pick) (h : St W w (netnetL W.heap.size p ro rc l ++ R)) (hm : l.length ≤ 1024)
    (hy : y = 0)
    : Calls Try.prog 19 #[.pointer (some ⟨p, 0, none⟩), .int .i64 pick, .int .i64 at_, .int .u8 (y.toNat : Int)] w fun e w' => e = .returned (.bool false) ∧ Below w.heap.size w w' := by
  have hT : (thNetnet W.heap.size p ro rc l).T w := h.head
  obtain ⟨g, rfl, hg⟩ := row_form hT.2.1 (by omega)
  obtain ⟨c0, f0⟩ := cell_of_one hT.1
  obtain ⟨c1, c2, c3, c4⟩ := net_cells hT i hi
  have hplt := lt_of_block hT.1
  have Hpk := Lib.hid (picked_yes W.heap.size p (some ⟨g, 0, none⟩) rc l pick w h.head (by omega) hm)
  rw [← hpi] at Hpk
  have H := Lib.hid h
  obtain ⟨f, t, ao, cap, bs, sp, hq⟩ : ∃ f t ao cap bs sp, (⟨f, t, ao, cap, bs, sp⟩ : Ms) = l[i] := ⟨_, _, _, _, _, _, rfl⟩
  rw [← hq] at c1 c2 c3 c4
  simp only at c1 c2 c3 c4
  subst hy
  have hyz : ((0 : UInt8).toNat : Int) = 0 := rfl
  rw [hyz]
  have Hq := Lib.hid hq
  have hli : (i : Int) < l.length := by omega
  clear h hT hq hpi
  go_enter Try.func19, Try.ntmps19
  go_wp2_with fail
  refine Hpk.out.mono ?_
  rintro e w1 ⟨rfl, rfl⟩
  go_wp2_with fail
  go_ret
  exact ⟨rfl, Below.refl _ _⟩
theorem spoil_empty (W w : World) (R : List Th) (p : Nat) (ro : Option Addr) (rc : Nat) (l : List Ms) (pick at_ : Int) (y : UInt8) (i : Nat) (hi : i < l.length) (hpi : i = pickOf l.length pick) (h : St W w (netnetL W.heap.size p ro rc l ++ R)) (hm : l.length ≤ 1024)
    (hy : y ≠ 0) (hb : l[i].bs.length = 0)
    : Calls Try.prog 19 #[.pointer (some ⟨p, 0, none⟩), .int .i64 pick, .int .i64 at_, .int .u8 (y.toNat : Int)] w fun e w' => e = .returned (.bool false) ∧ Below w.heap.size w w' := by
  have hT : (thNetnet W.heap.size p ro rc l).T w := h.head
  obtain ⟨g, rfl, hg⟩ := row_form hT.2.1 (by omega)
  obtain ⟨c0, f0⟩ := cell_of_one hT.1
  obtain ⟨c1, c2, c3, c4⟩ := net_cells hT i hi
  have hplt := lt_of_block hT.1
  have Hpk := Lib.hid (picked_yes W.heap.size p (some ⟨g, 0, none⟩) rc l pick w h.head (by omega) hm)
  rw [← hpi] at Hpk
  have H := Lib.hid h
  obtain ⟨f, t, ao, cap, bs, sp, hq⟩ : ∃ f t ao cap bs sp, (⟨f, t, ao, cap, bs, sp⟩ : Ms) = l[i] := ⟨_, _, _, _, _, _, rfl⟩
  rw [← hq] at c1 c2 c3 c4
  simp only at c1 c2 c3 c4
  have hyz : (((y.toNat : Int)) == 0) = false := by
    rw [beq_eq_false_iff_ne]
    intro e
    exact hy (UInt8.toNat_inj.1 (by simpa using e))
  rw [← hq] at hb
  simp only at hb
  have hbz : ((bs.length : Int) == 0) = true := by simp; exact List.length_eq_zero_iff.1 hb
  have Hq := Lib.hid hq
  have hli : (i : Int) < l.length := by omega
  clear h hT hq hpi
  go_enter Try.func19, Try.ntmps19
  go_wp2_with fail
  refine Hpk.out.mono ?_
  rintro e w1 ⟨rfl, rfl⟩
  go_wp2_with fail
  go_ret
  exact ⟨rfl, Below.refl _ _⟩
theorem spoil_spoilt (W w : World) (R : List Th) (p : Nat) (ro : Option Addr) (rc : Nat) (l : List Ms) (pick at_ : Int) (y : UInt8) (i : Nat) (hi : i < l.length) (hpi : i = pickOf l.length pick) (h : St W w (netnetL W.heap.size p ro rc l ++ R)) (hm : l.length ≤ 1024)
    (hy : y ≠ 0) (hb : l[i].bs.length ≠ 0) (hsp : l[i].sp = true)
    : Calls Try.prog 19 #[.pointer (some ⟨p, 0, none⟩), .int .i64 pick, .int .i64 at_, .int .u8 (y.toNat : Int)] w fun e w' => e = .returned (.bool false) ∧ Below w.heap.size w w' := by
  have hT : (thNetnet W.heap.size p ro rc l).T w := h.head
  obtain ⟨g, rfl, hg⟩ := row_form hT.2.1 (by omega)
  obtain ⟨c0, f0⟩ := cell_of_one hT.1
  obtain ⟨c1, c2, c3, c4⟩ := net_cells hT i hi
  have hplt := lt_of_block hT.1
  have Hpk := Lib.hid (picked_yes W.heap.size p (some ⟨g, 0, none⟩) rc l pick w h.head (by omega) hm)
  rw [← hpi] at Hpk
  have H := Lib.hid h
  obtain ⟨f, t, ao, cap, bs, sp, hq⟩ : ∃ f t ao cap bs sp, (⟨f, t, ao, cap, bs, sp⟩ : Ms) = l[i] := ⟨_, _, _, _, _, _, rfl⟩
  rw [← hq] at c1 c2 c3 c4
  simp only at c1 c2 c3 c4
  have hyz : (((y.toNat : Int)) == 0) = false := by
    rw [beq_eq_false_iff_ne]
    intro e
    exact hy (UInt8.toNat_inj.1 (by simpa using e))
  rw [← hq] at hb
  simp only at hb
  have hbz : ((bs.length : Int) == 0) = false := by rw [beq_eq_false_iff_ne]; omega
  rw [← hq] at hsp
  simp only at hsp
  subst hsp
  have Hq := Lib.hid hq
  have hli : (i : Int) < l.length := by omega
  clear h hT hq hpi
  go_enter Try.func19, Try.ntmps19
  go_wp2_with fail
  refine Hpk.out.mono ?_
  rintro e w1 ⟨rfl, rfl⟩
  go_wp2_with fail
  go_ret
  exact ⟨rfl, Below.refl _ _⟩
theorem spoil_yes (W w : World) (R : List Th) (p : Nat) (ro : Option Addr) (rc : Nat) (l : List Ms) (pick at_ : Int) (y : UInt8) (i : Nat) (hi : i < l.length) (hpi : i = pickOf l.length pick) (h : St W w (netnetL W.heap.size p ro rc l ++ R)) (hm : l.length ≤ 1024)
    (hy : y ≠ 0) (hb : l[i].bs.length ≠ 0) (hsp : l[i].sp = false)
    : Calls Try.prog 19 #[.pointer (some ⟨p, 0, none⟩), .int .i64 pick, .int .i64 at_, .int .u8 (y.toNat : Int)] w fun e w' => e = .returned (.bool true) ∧ St W w' (netnetL W.heap.size p ro rc (l.set i (spd l[i] (pickOf l[i].bs.length at_) y)) ++ R) := by
  have hT : (thNetnet W.heap.size p ro rc l).T w := h.head
  obtain ⟨g, rfl, hg⟩ := row_form hT.2.1 (by omega)
  obtain ⟨c0, f0⟩ := cell_of_one hT.1
  obtain ⟨c1, c2, c3, c4⟩ := net_cells hT i hi
  have hplt := lt_of_block hT.1
  have Hpk := Lib.hid (picked_yes W.heap.size p (some ⟨g, 0, none⟩) rc l pick w h.head (by omega) hm)
  rw [← hpi] at Hpk
  have H := Lib.hid h
  have hO := st_own h i hi
  have fR : ∀ j, w.frozen? ⟨g, j, none⟩ = false := fun j => by simpa using hT.2.1.frozenAt j
  obtain ⟨f, t, ao, cap, bs, sp, hq⟩ : ∃ f t ao cap bs sp, (⟨f, t, ao, cap, bs, sp⟩ : Ms) = l[i] := ⟨_, _, _, _, _, _, rfl⟩
  rw [← hq] at c1 c2 c3 c4
  simp only at c1 c2 c3 c4
  have hyz : (((y.toNat : Int)) == 0) = false := by
    rw [beq_eq_false_iff_ne]
    intro e
    exact hy (UInt8.toNat_inj.1 (by simpa using e))
  rw [← hq] at hb
  simp only at hb
  have hbz : ((bs.length : Int) == 0) = false := by rw [beq_eq_false_iff_ne]; omega
  rw [← hq] at hsp hO
  simp only at hsp hO
  subst hsp
  obtain ⟨bb, hbb, hbl, hblt, hrow⟩ := OwnB.row hO (by omega)
  subst hbb
  obtain ⟨k, hk⟩ : ∃ k, k = pickOf bs.length at_ := ⟨_, rfl⟩
  have hkl : k < bs.length := hk ▸ pickOf_lt (by omega) at_
  obtain ⟨x, hx⟩ : ∃ x, x = bs[k] ^^^ y := ⟨_, rfl⟩
  obtain ⟨hne, hS⟩ := St.spoilt (k := k) (y := y) (x := x) H.out hi (by rw [← hq]) (by rw [← hq]; exact hkl) (by rw [hx]; congr 1; simp only [← hq])
  have b0 := hrow k hkl
  rw [Nat.zero_add] at b0
  have bf : w.frozen? ⟨bb, k, none⟩ = false := by simpa using World.ownsRow.frozenAt hO k
  obtain ⟨d, hd⟩ : ∃ d, d = bs[k] := ⟨_, rfl⟩
  rw [← hd] at b0 hx
  have hxb := xor_byteN d y
  rw [← hx] at hxb
  obtain ⟨m, hm0⟩ : ∃ m : Nat, m = (max 0 at_).toNat := ⟨_, rfl⟩
  have hmax : max (0 : Int) at_ = m := by rw [hm0]; omega
  obtain ⟨n, hn⟩ : ∃ n, n = bs.length := ⟨_, rfl⟩
  have hkm : k = m % n := by rw [hk, hn, hm0]; rfl
  rw [← hn] at hb hbz c3 hkl
  have hn0 : ¬ (n : Int) = 0 := by omega
  have htm : ((m : Int).tmod (n : Int)) = k := by rw [Int.tmod_eq_emod_of_nonneg (by omega), hkm]; rfl
  have hkl2 : (k : Int) < n := by omega
  have fg := fR (i * 4 + 3)
  have HS := Lib.hid hS
  have Hk := Lib.hid hk
  have hne2 : bb ≠ g := fun e => hne e.symm
  clear hS hk hx hm0 hn hkm hO hrow hd fR
  have Hq := Lib.hid hq
  have hli : (i : Int) < l.length := by omega
  clear h hT hq hpi
  go_enter Try.func19, Try.ntmps19
  go_wp2_with fail
  refine Hpk.out.mono ?_
  rintro e w1 ⟨rfl, rfl⟩
  go_wp2_with fail
  go_still_tail 19, (by kernel_rfl)
  change wpList _ _ _ _ _ (World.drew _)
  go_wp2_with fail
  have hkk : k = pickOf l[i].bs.length at_ := by rw [← Hq.out]; exact Hk.out
  rw [← hkk] at *
  go_ret
  exact ⟨rfl, HS.out.drew⟩
end Go.Proofs.Ytcboflabjdiadaa
