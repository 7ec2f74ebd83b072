/- Texts put together: Kit, SumPlain, FrPlain, FrFour, FrDec, FrSpoilt, WDb. -/
import Derived.BigQuiet
import Derived.BigRegion
import Derived.Deep.RegionHeld3
import Derived.Laws.BytesArg
import Derived.Laws.ResultCell
import Derived.Lib.Hide
import Derived.Outline
import Derived.RegionTactic
import Derived.Shelf.Bytes.SlSmallAll
import Derived.StillTailTactics
import Derived.WalkKit
import Derived.WalkLawsBesides
import Derived.WalkSpells
import Derived.Test.YthlcmjgdilebeaaChecked
import Derived.Test.YthlcmjgdilebeaaPa01
import Derived.Test.YthlcmjgdilebeaaPa02
import Derived.Test.YthlcmjgdilebeaaPa03
import Derived.Test.YthlcmjgdilebeaaPa04
import Derived.Test.YthlcmjgdilebeaaPa05
import Derived.Test.YthlcmjgdilebeaaPa06
import Derived.Test.YthlcmjgdilebeaaPa07
import Derived.Test.YthlcmjgdilebeaaPa08
import Derived.Test.YthlcmjgdilebeaaPa09
import Derived.Test.YthlcmjgdilebeaaPa10
import Derived.Test.YthlcmjgdilebeaaPa11
import Derived.Test.YthlcmjgdilebeaaPa12
import Derived.Test.YthlcmjgdilebeaaPa13
import Derived.Test.YthlcmjgdilebeaaPa14
import Derived.Test.YthlcmjgdilebeaaPa15
import Derived.Test.YthlcmjgdilebeaaPa16
import Derived.Test.YthlcmjgdilebeaaPa17
import Derived.Test.YthlcmjgdilebeaaPa18
import Derived.Test.YthlcmjgdilebeaaPa19
import Derived.Test.YthlcmjgdilebeaaPa20
import Derived.Test.YthlcmjgdilebeaaPa21
import Derived.Test.YthlcmjgdilebeaaPa22
import Derived.Test.YthlcmjgdilebeaaPa23
import Derived.Test.YthlcmjgdilebeaaPa24
import Derived.Test.YthlcmjgdilebeaaPa25
import Derived.Test.YthlcmjgdilebeaaPa26
import Derived.Test.YthlcmjgdilebeaaPa27
import Derived.Test.YthlcmjgdilebeaaPa28
import Derived.Test.YthlcmjgdilebeaaPa29
import Derived.Test.YthlcmjgdilebeaaPa30
import Derived.Test.YthlcmjgdilebeaaPa31
import Derived.Test.YthlcmjgdilebeaaPa32
import Derived.Test.YthlcmjgdilebeaaPa33
import Derived.Test.YthlcmjgdilebeaaPa34
import Derived.Test.YthlcmjgdilebeaaPa35
import Derived.Test.YthlcmjgdilebeaaPa36
import Derived.Test.YthlcmjgdilebeaaPa37
import Derived.Test.YthlcmjgdilebeaaPa38
import Derived.Test.YthlcmjgdilebeaaPa39
import Derived.Test.YthlcmjgdilebeaaPa40
import Derived.Test.YthlcmjgdilebeaaPa41
import Derived.Test.YthlcmjgdilebeaaPa42
import Derived.Test.YthlcmjgdilebeaaPa43
import Derived.Test.YthlcmjgdilebeaaPa44
import Derived.Test.YthlcmjgdilebeaaPa45
import Derived.Test.YthlcmjgdilebeaaPa46
import Derived.Test.YthlcmjgdilebeaaPa47
import Derived.Test.YthlcmjgdilebeaaPa48
import Derived.Test.YthlcmjgdilebeaaPa49
import Derived.Test.YthlcmjgdilebeaaPa50
namespace Go.Proofs.Ythlcmjgdilebeaa
open Go.RowKit

theorem stay_drew (w3 : World) : Below w3.heap.size w3 w3.drew ∧ ∀ b o, b < w3.heap.size → w3.drew.cell? ⟨b, o, none⟩ = w3.cell? ⟨b, o, none⟩ :=
  ⟨(Below.refl _ _).drew, fun _ _ _ => rfl⟩
theorem stay_next {w3 W W' : World} (h : Below w3.heap.size w3 W ∧ ∀ b o, b < w3.heap.size → W.cell? ⟨b, o, none⟩ = w3.cell? ⟨b, o, none⟩) (hb : Below W.heap.size W W') :
    Below w3.heap.size w3 W' ∧ ∀ b o, b < w3.heap.size → W'.cell? ⟨b, o, none⟩ = w3.cell? ⟨b, o, none⟩ :=
  ⟨h.1.trans (hb.mono h.1.size), fun b o hbo => (bcell (h.1.trans (hb.mono h.1.size))).1 b o hbo⟩


/-! A region that draws its order, whose operations read what stood there when it began, and whose callees only grow the world: one walk of the lexical order (the class of worlds: those that grew out of w). -/
end Go.Proofs.Ythlcmjgdilebeaa

namespace Go.Proofs.Ythlcmjgdilebeaa
open Go.RowKit

theorem xor_cancel_r {a b c : Nat} (h : a ^^^ c = b ^^^ c) : a = b := by
  have := congrArg (· ^^^ c) h
  simpa [Nat.xor_assoc, Nat.xor_self] using this
theorem xor_cancel_l {a b c : Nat} (h : c ^^^ a = c ^^^ b) : a = b := xor_cancel_r (c := c) (by rw [Nat.xor_comm a, Nat.xor_comm b]; exact h)
theorem crc1_inj {u v : Nat} (hu : u < 4294967296) (hv : v < 4294967296) (h : crc1 u = crc1 v) : u = v := by
  have top : ∀ x : Nat, x < 4294967296 → (crc1 x).testBit 31 = decide (x % 2 = 1) := by
    intro x hx
    unfold crc1
    rw [Nat.testBit_xor, Nat.testBit_lt_two_pow (show x / 2 < 2 ^ 31 by omega)]
    by_cases h1 : x % 2 = 1
    · rw [if_pos h1, decide_eq_true h1]; decide
    · rw [if_neg h1, decide_eq_false h1]; decide
  have h1 := top u hu
  rw [h, top v hv] at h1
  have hp : u % 2 = v % 2 := by
    rcases Nat.mod_two_eq_zero_or_one u with a | a <;> rcases Nat.mod_two_eq_zero_or_one v with b | b <;> simp [a, b] at h1 <;> omega
  unfold crc1 at h
  rw [hp] at h
  have := xor_cancel_r h
  omega
theorem crcN_inj {u v : Nat} (hu : u < 4294967296) (hv : v < 4294967296) : ∀ n, crcN n u = crcN n v → u = v
  | 0, h => h
  | n + 1, h => crcN_inj hu hv n (crc1_inj (crcN_lt hu n) (crcN_lt hv n) h)
theorem crcOf_inj : ∀ (l : List UInt8) {u v : Nat}, u < 4294967296 → v < 4294967296 → crcOf u l = crcOf v l → u = v
  | [], _, _, _, _, h => h
  | c :: r, u, v, hu, hv, h => by
    have h1 := crcOf_inj r (crcB_lt hu c) (crcB_lt hv c) h
    exact xor_cancel_r (crcN_inj (xor_lt hu c) (xor_lt hv c) 8 h1)
theorem sum_differs (l : List UInt8) (i : Nat) (hi : i < l.length) (c : UInt8) (hc : c ≠ l[i]) : sumOf (l.set i c) ≠ sumOf l := by
  intro h
  unfold sumOf at h
  have h1 := xor_cancel_l h
  rw [List.set_eq_take_append_cons_drop, if_pos hi] at h1
  conv at h1 => rhs; rw [← List.take_append_drop i l, List.drop_eq_getElem_cons hi]
  rw [crcOf_append, crcOf_append] at h1
  have hq := crcOf_lt (l.take i) (u := 4294967295) (by omega)
  have h2 := crcOf_inj (l.drop (i + 1)) (crcB_lt hq c) (crcB_lt hq l[i]) h1
  have h3 := crcN_inj (xor_lt hq c) (xor_lt hq l[i]) 8 h2
  exact hc (UInt8.toNat_inj.1 (xor_cancel_l h3))
theorem bits_xor_u8 (a b : Nat) (ha : a < 256) (hb : b < 256) : bits .xor .u8 (a : Int) (b : Int) = ((a ^^^ b : Nat) : Int) := by
  have hx : a ^^^ b < 2 ^ 8 := Nat.xor_lt_two_pow (by omega) (by omega)
  have h1 : (BitVec.ofInt 8 (a : Int)).toNat = a := by
    rw [BitVec.ofInt_natCast, BitVec.toNat_ofNat]; exact Nat.mod_eq_of_lt (by omega)
  have h2 : (BitVec.ofInt 8 (b : Int)).toNat = b := by
    rw [BitVec.ofInt_natCast, BitVec.toNat_ofNat]; exact Nat.mod_eq_of_lt (by omega)
  show IntKind.u8.wrap ((BitVec.ofInt 8 (a : Int) ^^^ BitVec.ofInt 8 (b : Int)).toNat : Int) = _
  rw [BitVec.toNat_xor, h1, h2, IntKind.wrap_u8]
  omega
theorem xor_byte (c d : UInt8) : bits .xor .u8 (c.toNat : Int) (d.toNat : Int) = (((c ^^^ d).toNat : Nat) : Int) := by
  rw [bits_xor_u8 _ _ c.toNat_lt d.toNat_lt, UInt8.toNat_xor]
theorem xor_other (c d : UInt8) (h : d ≠ 0) : c ^^^ d ≠ c := fun e => by
  have := congrArg UInt8.toNat e
  rw [UInt8.toNat_xor] at this
  have h2 : c.toNat ^^^ d.toNat = c.toNat ^^^ 0 := by rw [this, Nat.xor_zero]
  exact h (UInt8.toNat_inj.1 (xor_cancel_l h2))
end Go.Proofs.Ythlcmjgdilebeaa

namespace Go.Proofs.Ythlcmjgdilebeaa.F

def unFour : List UInt8 → Nat
  | a :: b :: c :: d :: _ => a.toNat + b.toNat * 256 + c.toNat * 65536 + d.toNat * 16777216
  | _ => 0
theorem unFour_lt (l : List UInt8) : unFour l < 4294967296 := by
  match l with
  | a :: b :: c :: d :: _ => have := a.toNat_lt; have := b.toNat_lt; have := c.toNat_lt; have := d.toNat_lt; simp only [unFour]; omega
  | [] | [_] | [_, _] | [_, _, _] => simp [unFour]
theorem unFour_four (n : Nat) (hn : n < 4294967296) (r : List UInt8) : unFour (fourB n ++ r) = n := by
  simp only [fourB, List.cons_append, List.nil_append, unFour, UInt8.toNat_ofNat']
  omega
theorem four_unFour {l : List UInt8} (h : 4 ≤ l.length) : fourB (unFour l) = l.take 4 := by
  match l, h with
  | a :: b :: c :: d :: r, _ =>
    have ha := a.toNat_lt; have hb := b.toNat_lt; have hc := c.toNat_lt; have hd := d.toNat_lt
    simp only [fourB, unFour, List.take_succ_cons, List.take_zero, List.cons.injEq, and_true]
    refine ⟨?_, ?_, ?_, ?_⟩ <;> (apply UInt8.toNat_inj.1; rw [UInt8.toNat_ofNat']; omega)
theorem frameB_length (p : List UInt8) : (frameB p).length = p.length + 12 := by
  simp only [frameB, List.length_append, headB_length, fourB_length]; omega
/-- What bytes begin with: what the record holds, its length, and how it is refused. -/
def decB (l : List UInt8) : List UInt8 × Nat × Nat :=
  if l.length < 8 then ([], 0, 2) else if l.take 8 ≠ headB (unFour l) then ([], 0, 4) else if 1048576 < unFour l then ([], 0, 5)
  else if l.length < 12 + unFour l then ([], 0, 2) else if unFour (l.drop (8 + unFour l)) ≠ sumOf (l.take (8 + unFour l)) then ([], 0, 4)
  else ((l.drop 8).take (unFour l), 12 + unFour l, 0)
end Go.Proofs.Ythlcmjgdilebeaa.F

namespace Go.Proofs.Ythlcmjgdilebeaa.F
set_option maxRecDepth 20000
open Go.RowKit

theorem bits_or_u32 (a b : Nat) (ha : a < 4294967296) (hb : b < 4294967296) : bits .or .u32 (a : Int) (b : Int) = ((a ||| b : Nat) : Int) := by
  have hx : a ||| b < 2 ^ 32 := Nat.or_lt_two_pow (by omega) (by omega)
  have h1 : (BitVec.ofInt 32 (a : Int)).toNat = a := by
    rw [BitVec.ofInt_natCast, BitVec.toNat_ofNat]; exact Nat.mod_eq_of_lt (by omega)
  have h2 : (BitVec.ofInt 32 (b : Int)).toNat = b := by
    rw [BitVec.ofInt_natCast, BitVec.toNat_ofNat]; exact Nat.mod_eq_of_lt (by omega)
  show IntKind.u32.wrap ((BitVec.ofInt 32 (a : Int) ||| BitVec.ofInt 32 (b : Int)).toNat : Int) = _
  rw [BitVec.toNat_or, h1, h2, wrap_u32]
  omega
/-- A digit laid on top of what is below it. -/
theorem or_top (k a b : Nat) (ha : a < 2 ^ k) (hk : b * 2 ^ k < 4294967296) (ha2 : a < 4294967296) : bits .or .u32 (a : Int) ((b : Int) * ((2 ^ k : Nat) : Int)) = ((a + b * 2 ^ k : Nat) : Int) := by
  rw [← Int.natCast_mul, bits_or_u32 _ _ ha2 hk]
  congr 1
  rw [Nat.mul_comm b, Nat.or_comm, ← Nat.two_pow_add_eq_or_of_lt ha, Nat.add_comm]
theorem four_or (a b c d : UInt8) : bits .or .u32 (bits .or .u32 (bits .or .u32 (a.toNat : Int) ((b.toNat : Int) * 256)) ((c.toNat : Int) * 65536)) ((d.toNat : Int) * 16777216) = ((a.toNat + b.toNat * 256 + c.toNat * 65536 + d.toNat * 16777216 : Nat) : Int) := by
  have ha := a.toNat_lt; have hb := b.toNat_lt; have hc := c.toNat_lt; have hd := d.toNat_lt
  have e1 := or_top 8 a.toNat b.toNat (by omega) (by omega) (by omega)
  have e2 := or_top 16 (a.toNat + b.toNat * 256) c.toNat (by omega) (by omega) (by omega)
  have e3 := or_top 24 (a.toNat + b.toNat * 256 + c.toNat * 65536) d.toNat (by omega) (by omega) (by omega)
  simp only [show ((2 ^ 8 : Nat) : Int) = 256 from rfl, show ((2 ^ 16 : Nat) : Int) = 65536 from rfl, show ((2 ^ 24 : Nat) : Int) = 16777216 from rfl, show (2 : Nat) ^ 8 = 256 from rfl, show (2 : Nat) ^ 16 = 65536 from rfl, show (2 : Nat) ^ 24 = 16777216 from rfl] at e1 e2 e3
  rw [e1, e2, e3]
set_option maxHeartbeats 1000000 in
theorem qframe.fromFour_any (ao : Option Addr) (cap : Nat) (l : List UInt8) (w : World) (h : BAt w ao l) (hl : 4 ≤ l.length) :
    Calls Try.prog 86 #[.slice ao l.length cap] w fun e w' => e = .returned (.int .u32 (unFour l : Nat)) ∧ ∃ n, w' = w.drewN n := by
  obtain ⟨b, off, rfl, hb, hr⟩ := h (by omega)
  match l, hl with
  | c0 :: c1 :: c2 :: c3 :: r, _ =>
    have k0 := hr 0 (by simp)
    have k1 := hr 1 (by simp)
    have k2 := hr 2 (by simp)
    have k3 := hr 3 (by simp)
    simp only [List.getElem_cons_zero, List.getElem_cons_succ, Nat.add_zero] at k0 k1 k2 k3
    have b0 : (0 : Int) ≤ c0.toNat ∧ (c0.toNat : Int) < 256 := ⟨by omega, by have := c0.toNat_lt; omega⟩
    have b1 : (0 : Int) ≤ c1.toNat ∧ (c1.toNat : Int) < 256 := ⟨by omega, by have := c1.toNat_lt; omega⟩
    have b2 : (0 : Int) ≤ c2.toNat ∧ (c2.toNat : Int) < 256 := ⟨by omega, by have := c2.toNat_lt; omega⟩
    have b3 : (0 : Int) ≤ c3.toNat ∧ (c3.toNat : Int) < 256 := ⟨by omega, by have := c3.toNat_lt; omega⟩
    obtain ⟨m, hm⟩ : ∃ m, m = (c0 :: c1 :: c2 :: c3 :: r).length := ⟨_, rfl⟩
    have hm4 : 4 ≤ m := by rw [hm]; simp
    rw [← hm]
    have hm0 : (0 : Int) < m := by omega
    have hm1 : (1 : Int) < m := by omega
    have hm2 : (2 : Int) < m := by omega
    have hm3 : (3 : Int) < m := by omega
    clear hr h hm
    go_enter Try.func86, Try.ntmps86
    go_wp2_with fail
    go_quiet (fail)
    go_wp2_with fail
    go_ret
    refine ⟨?_, _, rfl⟩
    show Ending.returned (.int .u32 _) = _
    rw [four_or]
    rfl
end Go.Proofs.Ythlcmjgdilebeaa.F

namespace Go.Proofs.Ythlcmjgdilebeaa.F
set_option maxRecDepth 20000
open Go.RowKit

/-- The post of Decode: what it holds, its length, and how it is refused. -/
def DecPost (w : World) (r : List UInt8 × Nat × Nat) (e : Ending) (w' : World) : Prop := ∃ ao cap, e = .returned (.tuple #[.slice ao r.1.length cap, .int .i64 (r.2.1 : Nat), .int .i64 (r.2.2 : Nat)]) ∧ OwnB w' w.heap.size ao cap r.1 ∧ Below w.heap.size w w'
theorem own_none (w : World) (base : Nat) : OwnB w base none 0 [] := ⟨rfl, .inl ⟨rfl, rfl⟩⟩
theorem bat_cut {w : World} {b off : Nat} {l : List UInt8} (hb : b < w.heap.size) (h : BRow w b off l) (m k : Nat) : BAt w (some ⟨b, off + m, none⟩) ((l.drop m).take k) := fun hp => ⟨b, off + m, rfl, hb, fun i hi => by
  simp only [List.length_take, List.length_drop] at hi
  rw [Nat.add_assoc, h (m + i) (by omega)]
  simp only [List.getElem_take, List.getElem_drop]⟩
theorem fromFour_b (ao : Option Addr) (cap : Nat) (l : List UInt8) (w : World) (h : BAt w ao l) (hl : 4 ≤ l.length) :
    Calls Try.prog 86 #[.slice ao l.length cap] w fun e w' => e = .returned (.int .u32 (unFour l : Nat)) ∧ Below w.heap.size w w' :=
  (qframe.fromFour_any ao cap l w h hl).mono fun _ _ ⟨he, _, hw⟩ => ⟨he, hw ▸ below_drawn (Below.refl _ _)⟩
set_option maxHeartbeats 4000000 in
theorem decode_any (ao : Option Addr) (cap : Nat) (l : List UInt8) (w : World) (h : Sl w ao cap l) (hm : l.length ≤ 140737488351232) :
    Calls Try.prog 70 #[.slice ao l.length cap] w (DecPost w (decB l)) := by
  by_cases h8 : (l.length : Int) < 8
  · have hd : decB l = ([], 0, 2) := by unfold decB; rw [if_pos (by omega)]
    rw [hd]
    clear hd h
    go_enter Try.func70, Try.ntmps70
    go_wp2_with fail
    go_ret3
    exact ⟨none, 0, rfl, own_none _ _, bg⟩
  obtain ⟨b, off, rfl, hb, hr⟩ := h.at_ (by omega)
  have hlc := h.le
  have hcm := h.cm
  have hul := unFour_lt l
  have HS := Lib.hid h
  have Hr := Lib.hid hr
  obtain ⟨u, hu⟩ : ∃ u, u = unFour l := ⟨_, rfl⟩
  rw [← hu] at hul
  have hfour := qframe.fromFour_any (some ⟨b, off, none⟩) cap l w h.at_ (by omega)
  rw [← hu] at hfour
  have Hfour := Lib.hid hfour
  have hw8 : BAt w (some ⟨b, off, none⟩) (l.take 8) := by have := bat_cut hb hr 0 8; simpa using this
  have Hw8 := Lib.hid hw8
  have hl8 : (l.take 8).length = 8 := by rw [List.length_take]; omega
  have hdec : decB l = if l.take 8 ≠ headB u then ([], 0, 4) else if 1048576 < u then ([], 0, 5) else if l.length < 12 + u then ([], 0, 2) else if unFour (l.drop (8 + u)) ≠ sumOf (l.take (8 + u)) then ([], 0, 4) else ((l.drop 8).take u, 12 + u, 0) := by
    unfold decB; rw [if_neg (by omega), ← hu]
  have Hdec := Lib.hid hdec
  have Hl8 := Lib.hid hl8
  clear hu hfour hr h hw8 hdec hl8
  have hc8 : 8 ≤ cap := by omega
  have hc8i : (8 : Int) ≤ cap := by omega
  go_enter Try.func70, Try.ntmps70
  go_wp2_with fail
  refine Hfour.out.mono ?_
  rintro e w1 ⟨rfl, dn, rfl⟩
  go_wp2_with fail
  refine wp_name fun wa hwa => ?_
  have wab : Below w.heap.size w wa := by rw [hwa]; exact below_drawn (Below.refl _ _)
  clear hwa
  have was := wab.size
  obtain ⟨z, hz⟩ : ∃ z, z = (l.take 8 == headB u) := ⟨_, rfl⟩
  have he : ∀ (W : World) (ho : Option Addr) (hc : Nat), BAt W (some ⟨b, off, none⟩) (l.take 8) → BAt W ho (headB u) → Calls Try.prog 45 #[.slice (some ⟨b, off, none⟩) 8 cap, .slice ho (headB u).length hc] W fun e w' => e = .returned (.bool z) ∧ W = w' := by
    intro W ho hc g1 g2
    have := equal_any (some ⟨b, off, none⟩) ho cap hc (l.take 8) (headB u) W g1 g2
    rw [Hl8.out, ← hz] at this
    exact this.mono fun _ _ ⟨a, b⟩ => ⟨a, b.symm⟩
  have HE := Lib.hid he
  have Hz := Lib.hid hz
  clear he hz
  go_region_held3 (fun W => Below wa.heap.size wa W ∧ ∀ b o, b < wa.heap.size → W.cell? ⟨b, o, none⟩ = wa.cell? ⟨b, o, none⟩) (first | exact stay_drew _ | exact stay_next (by assumption) (by assumption)) (first
    | (go_at_call 57; refine (headOf_any u _ hul).mono ?_; rintro e y1 ⟨ho, hc, rfl, h1, b1⟩; have H1 := Lib.hid h1.sl; have C1 : Below w.heap.size w y1 := wab.trans (((Below.refl wa.heap.size wa).drew.trans b1).mono wab.size); clear h1)
    | (go_at_call 45; refine (HE.out _ ho hc (Hw8.out.below C1) H1.out.at_).mono ?_; rintro e y2 ⟨rfl, rfl⟩; have b2 := Below.refl y1.heap.size y1))
  have hs1 := C1.size
  have HC1 := Lib.hid C1
  have HS1 := Lib.hid (HS.out.grow C1)
  clear C1 b1 b2 wab
  cases z with
  | false =>
    have hd : decB l = ([], 0, 4) := by
      rw [Hdec.out, if_pos]
      intro e
      have := Hz.out
      rw [e] at this
      simp at this
    have Hd := Lib.hid hd
    clear hd
    go_wp2_with fail
    go_ret3
    rw [Hd.out]
    exact ⟨none, 0, rfl, own_none _ _, HC1.out⟩
  | true =>
    have hq : l.take 8 = headB u := by have := Hz.out; simpa using this.symm
    have hd1 : decB l = if 1048576 < u then ([], 0, 5) else if l.length < 12 + u then ([], 0, 2) else if unFour (l.drop (8 + u)) ≠ sumOf (l.take (8 + u)) then ([], 0, 4) else ((l.drop 8).take u, 12 + u, 0) := by
      rw [Hdec.out, if_neg (by simpa using hq)]
    have Hd1 := Lib.hid hd1
    clear Hdec hd1 hq Hz HE
    by_cases hbig : (1048576 : Int) < u
    · have hd : decB l = ([], 0, 5) := by rw [Hd1.out, if_pos (by omega)]
      have Hd := Lib.hid hd
      clear hd
      go_wp2_with fail
      go_ret3
      rw [Hd.out]
      exact ⟨none, 0, rfl, own_none _ _, HC1.out⟩
    by_cases hsh : (l.length : Int) < 12 + u
    · have hd : decB l = ([], 0, 2) := by rw [Hd1.out, if_neg (by omega), if_pos (by omega)]
      have Hd := Lib.hid hd
      have hsh2 : (l.length : Int) - 8 - 4 < u := by omega
      clear hd
      go_wp2_with fail
      go_ret3
      rw [Hd.out]
      exact ⟨none, 0, rfl, own_none _ _, HC1.out⟩
    have hsh2 : ¬ (l.length : Int) - 8 - 4 < u := by omega
    have hlt1 : (l.take (8 + u)).length = 8 + u := by rw [List.length_take]; omega
    have hld1 : (l.drop (8 + u)).length = l.length - (8 + u) := List.length_drop
    have hb1 : b < y1.heap.size := by omega
    have hr1 : BRow y1 b off l := Hr.out.below hb HC1.out
    have hat1 : BAt y1 (some ⟨b, off, none⟩) (l.take (8 + u)) := by have := bat_cut hb1 hr1 0 (8 + u); simpa using this
    have hat2 : BAt y1 (some ⟨b, off + (8 + u), none⟩) (l.drop (8 + u)) := by
      have := bat_cut hb1 hr1 (8 + u) (l.length - (8 + u))
      rwa [List.take_of_length_le (by rw [List.length_drop]; omega)] at this
    have hat3 : BAt y1 (some ⟨b, off + 8, none⟩) ((l.drop 8).take u) := bat_cut hb1 hr1 8 u
    have hl3 : ((l.drop 8).take u).length = u := by rw [List.length_take, List.length_drop]; omega
    have hf := fromFour_b (some ⟨b, off + (8 + u), none⟩) (cap - (8 + u)) (l.drop (8 + u)) y1 hat2 (by rw [hld1]; omega)
    obtain ⟨s, hs⟩ : ∃ s, s = unFour (l.drop (8 + u)) := ⟨_, rfl⟩
    obtain ⟨t, ht⟩ : ∃ t, t = sumOf (l.take (8 + u)) := ⟨_, rfl⟩
    rw [← hs, hld1] at hf
    have hd2 : decB l = if s ≠ t then ([], 0, 4) else ((l.drop 8).take u, 12 + u, 0) := by rw [Hd1.out, if_neg (by omega), if_neg (by omega), hs, ht]
    have hsum : ∀ W, Below y1.heap.size y1 W → Calls Try.prog 59 #[.slice (some ⟨W.heap.size, 0, none⟩) 1 1] (W.alloc (.cells #[.slice (some ⟨b, off, none⟩) (8 + u : Nat) cap] 38)) fun e w' => e = .returned (.int .u32 (t : Nat)) ∧ w' = W.alloc (.cells #[.slice (some ⟨b, off, none⟩) (8 + u : Nat) cap] 38) := by
      intro W hW
      have := sum_one (c := cap) (⟨by rw [hlt1]; omega, hcm, fun h => (nomatch h), hat1.below hW⟩ : Sl W (some ⟨b, off, none⟩) cap (l.take (8 + u))) 38 _ rfl
      rw [hlt1, ← ht] at this
      exact this
    have hclone : ∀ W, Below y1.heap.size y1 W → Calls Try.prog 60 #[.slice (some ⟨b, off + 8, none⟩) u (cap - 8)] W fun e w' => ∃ ao cap, e = .returned (.slice ao u cap) ∧ OwnB w' W.heap.size ao cap ((l.drop 8).take u) ∧ Below W.heap.size W w' := by
      intro W hW
      have := clone_any (some ⟨b, off + 8, none⟩) (cap - 8) ((l.drop 8).take u) W (fun h => (nomatch h)) (hat3.below hW) (by rw [hl3]; omega)
      unfold FreshB at this
      rw [hl3] at this
      exact this
    have Hf := Lib.hid hf
    have Hsum := Lib.hid hsum
    have Hclone := Lib.hid hclone
    have Hd2 := Lib.hid hd2
    have Hl3 := Lib.hid hl3
    clear hlt1 hld1 hr1 hat1 hat2 hat3 hf hs ht hd2 hsum hclone Hd1 hl3
    have hk1 : 8 + u ≤ cap := by omega
    have hk2 : (8 : Int) + u ≤ cap := by omega
    have hk3 : 8 + u ≤ l.length := by omega
    go_wp2_with fail
    refine Hf.out.mono ?_
    rintro e y2 ⟨rfl, b2⟩
    have Y2 := Lib.hid b2
    have s2 := b2.size
    clear b2 Hf
    go_wp2_with fail
    refine (Hsum.out _ Y2.out).mono ?_
    rintro e y3 ⟨rfl, rfl⟩
    have Y3 := Lib.hid (Y2.out.trans ((below_allocF y2 (.cells #[.slice (some ⟨b, off, none⟩) (8 + u : Nat) cap] 38)).mono s2))
    by_cases hst : s = t
    · subst hst
      have hd : decB l = ((l.drop 8).take u, 12 + u, 0) := by rw [Hd2.out, if_neg (by simp)]
      have Hd := Lib.hid hd
      clear hd Hd2
      go_wp2_with fail
      refine (Hclone.out _ Y3.out).mono ?_
      rintro e y4 ⟨ro, rc, rfl, ho, hb4⟩
      have HO := Lib.hid ho
      have HB := Lib.hid (HC1.out.trans ((Y3.out.trans (hb4.mono (by have := Y3.out.size; omega))).mono hs1))
      have hbase : w.heap.size ≤ (y2.alloc (.cells #[.slice (some ⟨b, off, none⟩) (8 + u : Nat) cap] 38)).heap.size := by have := Y3.out.size; omega
      have HO2 := Lib.hid (own_weak ho hbase)
      clear ho hb4 hbase HO
      go_wp2_with fail
      go_ret3
      rw [Hd.out]
      exact ⟨ro, rc, (show Ending.returned (.tuple #[.slice ro u rc, .int .i64 (8 + (u : Int) + 4), .int .i64 0]) = _ from by rw [show (8 + (u : Int) + 4) = ((12 + u : Nat) : Int) from by omega]; simp only [Hl3.out]; rfl), HO2.out, HB.out⟩
    · have hd : decB l = ([], 0, 4) := by rw [Hd2.out, if_pos hst]
      have Hd := Lib.hid hd
      have hne : ((s : Int) != t) = true := by simp; omega
      clear hd Hd2
      go_wp2_with fail
      go_ret3
      rw [Hd.out]
      exact ⟨none, 0, rfl, own_none _ _, HC1.out.trans (Y3.out.mono hs1)⟩
/-- What bytes hold that are one record. -/
def oneB (l : List UInt8) : List UInt8 × Nat := if (decB l).2.2 = 0 ∧ (decB l).2.1 ≠ l.length then ([], 3) else ((decB l).1, (decB l).2.2)
def OnePost (w : World) (r : List UInt8 × Nat) (e : Ending) (w' : World) : Prop := ∃ ao cap, e = .returned (.tuple #[.slice ao r.1.length cap, .int .i64 (r.2 : Nat)]) ∧ OwnB w' w.heap.size ao cap r.1 ∧ Below w.heap.size w w'
theorem one_any (ao : Option Addr) (cap : Nat) (l : List UInt8) (w : World) (h : Sl w ao cap l) (hm : l.length ≤ 140737488351232) :
    Calls Try.prog 39 #[.slice ao l.length cap] w (OnePost w (oneB l)) := by
  have H := Lib.hid (decode_any ao cap l w h hm)
  obtain ⟨d, n, c, hd⟩ : ∃ d n c, decB l = (d, n, c) := ⟨_, _, _, rfl⟩
  have h1 : oneB l = if c = 0 ∧ n ≠ l.length then ([], 3) else (d, c) := by unfold oneB; rw [hd]
  have H1 := Lib.hid h1
  rw [hd] at H
  clear h h1 hd
  by_cases hc : c = 0
  · subst hc
    by_cases hn : n = l.length
    all_goals
      (first | (have hb : ((n : Int) != l.length) = false := by simp; omega) | (have hb : ((n : Int) != l.length) = true := by simp; omega))
      have Hn := Lib.hid hn
      clear hn
      go_enter Try.func39, Try.ntmps39
      go_wp2_with fail
      refine H.out.mono ?_
      rintro e w1 ⟨ro, rc, rfl, ho, hb1⟩
      have HO := Lib.hid ho
      have HB := Lib.hid hb1
      clear ho hb1
      simp only
      go_wp2_with fail
      go_ret2
    · rw [H1.out, if_neg (by simp [Hn.out])]
      exact ⟨ro, rc, by first | rfl | trivial, HO.out, HB.out⟩
    · rw [H1.out, if_pos ⟨by first | rfl | trivial, Hn.out⟩]
      exact ⟨none, 0, by first | rfl | trivial, own_none _ _, HB.out⟩
  · have hc0 : ((c : Int) == 0) = false := by rw [beq_eq_false_iff_ne]; omega
    go_enter Try.func39, Try.ntmps39
    go_wp2_with fail
    refine H.out.mono ?_
    rintro e w1 ⟨ro, rc, rfl, ho, hb1⟩
    have HO := Lib.hid ho
    have HB := Lib.hid hb1
    clear ho hb1
    simp only
    go_wp2_with fail
    go_ret2
    rw [H1.out, if_neg (by simp [hc])]
    exact ⟨ro, rc, by first | rfl | trivial, HO.out, HB.out⟩
end Go.Proofs.Ythlcmjgdilebeaa.F

namespace Go.Proofs.Ythlcmjgdilebeaa.F

theorem fourB_inj {a b : Nat} (ha : a < 4294967296) (hb : b < 4294967296) (h : fourB a = fourB b) : a = b := by
  have h1 := unFour_four a ha []
  have h2 := unFour_four b hb []
  rw [List.append_nil] at h1 h2
  rw [← h1, ← h2, h]
theorem set_ne {l : List UInt8} {i : Nat} (hi : i < l.length) {c : UInt8} (hc : c ≠ l[i]) : l.set i c ≠ l := fun h => by
  have h1 : (l.set i c)[i]'(by simpa using hi) = c := by simp
  have h2 : (l.set i c)[i]'(by simpa using hi) = l[i] := by simp only [h]
  exact hc (h1.symm.trans h2)
theorem head_spoilt {n u i : Nat} {c : UInt8} (hn : n < 4294967296) (hu : u < 4294967296) (hi : i < (headB n).length) (hc : c ≠ (headB n)[i]) : (headB n).set i c ≠ headB u := by
  intro h
  have h4 : (fourB n).length = 4 := rfl
  have hs := sumOf_lt (fourB n)
  have hs' := sumOf_lt (fourB u)
  by_cases h1 : i < 4
  · have e1 : (headB n).set i c = (fourB n).set i c ++ fourB (sumOf (fourB n)) := by
      unfold headB; rw [List.set_append, if_pos (by omega)]
    rw [e1] at h
    unfold headB at h
    obtain ⟨g1, g2⟩ := List.append_inj h (by simp [fourB])
    have g3 := fourB_inj hs hs' g2
    have hc' : c ≠ (fourB n)[i]'(by omega) := by
      have : (headB n)[i] = (fourB n)[i]'(by omega) := by simp only [headB]; rw [List.getElem_append_left (by omega)]
      rwa [this] at hc
    exact sum_differs (fourB n) i (by omega) c hc' (by rw [g1]; exact g3.symm)
  · have e1 : (headB n).set i c = fourB n ++ (fourB (sumOf (fourB n))).set (i - 4) c := by
      unfold headB; rw [List.set_append, if_neg (by omega)]; rfl
    rw [e1] at h
    unfold headB at h
    obtain ⟨g1, g2⟩ := List.append_inj h rfl
    have g3 := fourB_inj hn hu g1
    subst g3
    have hi8 : i < 8 := hi
    have hlt : i - 4 < (fourB (sumOf (fourB n))).length := by rw [fourB_length]; omega
    refine set_ne hlt (c := c) ?_ g2
    have : (headB n)[i] = (fourB (sumOf (fourB n)))[i - 4]'hlt := by simp only [headB]; rw [List.getElem_append_right (by omega)]; rfl
    exact fun hh => hc (hh.trans this.symm)
theorem dec_spoilt (p more : List UInt8) (hp : p.length ≤ 1048576) (i : Nat) (hi : i < (frameB p).length) (c : UInt8) (hc : c ≠ (frameB p)[i]) : (decB ((frameB p).set i c ++ more)).2.2 ≠ 0 := by
  intro h
  obtain ⟨W, hW⟩ : ∃ W, W = headB p.length ++ p := ⟨_, rfl⟩
  have hF : frameB p = W ++ fourB (sumOf W) := by rw [hW]; rfl
  have hWl : W.length = 8 + p.length := by rw [hW, List.length_append, headB_length]
  have hFl := frameB_length p
  obtain ⟨L, hL⟩ : ∃ L, L = (frameB p).set i c ++ more := ⟨_, rfl⟩
  rw [← hL] at h
  have hLl : L.length = p.length + 12 + more.length := by rw [hL, List.length_append, List.length_set, hFl]
  unfold decB at h
  rw [if_neg (by omega)] at h
  by_cases h1 : L.take 8 ≠ headB (unFour L)
  · rw [if_pos h1] at h; cases h
  rw [if_neg h1] at h
  have h1' : L.take 8 = headB (unFour L) := Classical.byContradiction h1
  have ht8 : L.take 8 = if i < 8 then (headB p.length).set i c else headB p.length := by
    rw [hL, List.take_append_of_le_length (by rw [List.length_set]; omega), hF, hW]
    have e8 : (headB p.length).length = 8 := rfl
    simp only [List.append_assoc, List.set_append, e8]
    split
    · exact List.take_left' (by rw [List.length_set]; rfl)
    · exact List.take_left' rfl
  by_cases hi8 : i < 8
  · rw [if_pos hi8] at ht8
    refine head_spoilt (n := p.length) (u := unFour L) (i := i) (c := c) (by omega) (unFour_lt _) (by rw [headB_length]; exact hi8) ?_ (ht8.symm.trans h1')
    have : (frameB p)[i] = (headB p.length)[i]'(by rw [headB_length]; exact hi8) := by
      simp only [frameB]
      rw [List.getElem_append_left (by rw [List.length_append, headB_length]; omega), List.getElem_append_left (by rw [headB_length]; exact hi8)]
    rwa [this] at hc
  · rw [if_neg hi8] at ht8
    have hu : unFour L = p.length := by
      have h2 := h1'.symm.trans ht8
      have h3 := (List.append_inj (show fourB (unFour L) ++ fourB (sumOf (fourB (unFour L))) = fourB p.length ++ fourB (sumOf (fourB p.length)) from h2) rfl).1
      exact fourB_inj (unFour_lt _) (by omega) h3
    rw [hu, if_neg (by omega), if_neg (by omega)] at h
    by_cases h5 : unFour (L.drop (8 + p.length)) ≠ sumOf (L.take (8 + p.length))
    · rw [if_pos h5] at h; cases h
    have h5' : unFour (L.drop (8 + p.length)) = sumOf (L.take (8 + p.length)) := Classical.byContradiction h5
    by_cases hin : i < 8 + p.length
    · have e1 : L = W.set i c ++ (fourB (sumOf W) ++ more) := by
        rw [hL, hF, List.set_append, if_pos (by omega), List.append_assoc]
      have hwl : (W.set i c).length = 8 + p.length := by rw [List.length_set, hWl]
      have e2 : L.take (8 + p.length) = W.set i c := by rw [e1]; exact List.take_left' hwl
      have e3 : L.drop (8 + p.length) = fourB (sumOf W) ++ more := by rw [e1]; exact List.drop_left' hwl
      rw [e2, e3, unFour_four _ (sumOf_lt _)] at h5'
      refine sum_differs W i (by omega) c ?_ h5'.symm
      have : (frameB p)[i] = W[i]'(by omega) := by simp only [hF]; rw [List.getElem_append_left (by omega)]
      rwa [this] at hc
    · have hj : i - W.length < (fourB (sumOf W)).length := by rw [fourB_length]; omega
      have e1 : L = W ++ ((fourB (sumOf W)).set (i - W.length) c ++ more) := by
        rw [hL, hF, List.set_append, if_neg (by omega), List.append_assoc]
      have e2 : L.take (8 + p.length) = W := by rw [e1]; exact List.take_left' hWl
      have e3 : L.drop (8 + p.length) = (fourB (sumOf W)).set (i - W.length) c ++ more := by rw [e1]; exact List.drop_left' hWl
      have e4 := four_unFour (l := (fourB (sumOf W)).set (i - W.length) c ++ more) (by rw [List.length_append, List.length_set, fourB_length]; omega)
      rw [e2, e3] at h5'
      rw [h5', List.take_left' (by rw [List.length_set]; rfl)] at e4
      refine set_ne hj (c := c) ?_ e4.symm
      have : (frameB p)[i] = (fourB (sumOf W))[i - W.length]'hj := by simp only [hF]; rw [List.getElem_append_right (by omega)]
      rwa [this] at hc
end Go.Proofs.Ythlcmjgdilebeaa.F

namespace Go.Proofs.Ythlcmjgdilebeaa
set_option maxRecDepth 20000
open Go.RowKit

theorem results_row_tmp {P : Program} {fn : Func} {p u : Tmp} {ty : TypeId} (h : fn.results = #[.cell p ty, .tmp u]) (tmps : Array Value) (w : World) (g : Nat) (t : TypeId) (cs : Array Value) (fr : Nat × Nat) (d : TypeDesc)
    (hp : tmps.getD p undef = .pointer (some ⟨g, 0, none⟩)) (hg : w.heap[g]? = some (.cells cs t fr))
    (hu : P.underlying ty = some d) (hd : (match d with | .struct _ | .array _ _ => true | _ => false) = true) (hi : (P.info? ty).map (·.size) = some cs.size) :
    (results fn tmps).run P w = .ok (.tuple #[.agg cs, tmps.getD u undef]) w := by
  rw [results_cell_tmp h tmps P w, hp]
  simp only [asAddr, Sem.run_pure, Result.andThen_ok]
  rw [run_loadVar_row w g t ty cs fr d hg hu hd hi]
  simp only [Result.andThen_ok]
/-- No word. -/
def zWd : Wd := ⟨0, 0, 0, 0, 0, 0, 0, 0, e0, e0, rq0, zRp, mp0, ch0, []⟩
theorem zWd_eq : wdV zWd (.slice none 0 0) (.slice none 0 0) = #[.int .i64 0, .int .i64 0, .int .i64 0, .int .i64 0, .int .i64 0, .int .i64 0, .int .i64 0, .int .i64 0, .string ⟨#[]⟩, .string ⟨#[]⟩, .int .i64 0, .int .i64 0, .int .i64 0, .string ⟨#[]⟩, .string ⟨#[]⟩, .string ⟨#[]⟩, .string ⟨#[]⟩, .int .i64 0, .int .i64 0, .int .i64 0, .bool false, .int .i64 0, .int .i64 0, .int .i64 0, .int .i64 0, .int .i64 0, .int .i64 0, .int .i64 0, .int .i64 0, .int .i64 0, .slice none 0 0, .int .i64 0, .int .i64 0, .int .i64 0, .int .i64 0, .string ⟨#[]⟩, .slice none 0 0] := rfl
theorem St.setRow37 {W w : World} {L : List Th} {b : Nat} {cur : Array Value} {t : TypeId} (h : St W w (thObj b (.cells cur t (0, 0)) :: L)) (cs : Array Value) : St W (w.setRow b cs) (thObj b (.cells cs t (0, 0)) :: L) :=
  h.step (w' := w.setRow b cs) ⟨rfl, rfl, rfl, by simp, fun k _ hn => setRow_other w b k cs (fun e => hn e)⟩ _ (setRow_heap w b cur cs t (0, 0) h.head) (fun _ hx => .inl hx)
set_option maxHeartbeats 4000000 in
theorem decode_bad (ao : Option Addr) (cap : Nat) (l : List UInt8) (w : World) (h : F.Sl w ao cap l) (hm : l.length ≤ 140737488351232) (hc : (F.oneB l).2 ≠ 0) :
    Calls Try.prog 13 #[.slice ao l.length cap] w fun e w' => ∃ c : Int, c ≠ 0 ∧ e = .returned (.tuple #[.agg (wdV zWd (.slice none 0 0) (.slice none 0 0)), .int .i64 c]) ∧ Below w.heap.size w w' := by
  obtain ⟨n, hn⟩ : ∃ n, n = l.length := ⟨_, rfl⟩
  have Hone := Lib.hid (fun (w3 : World) (hb : Below w.heap.size w w3) => F.one_any ao cap l w3 (h.grow hb) hm)
  unfold F.OnePost at Hone
  obtain ⟨r, c, hr⟩ : ∃ r c, F.oneB l = (r, c) := ⟨_, _, rfl⟩
  rw [hr] at Hone hc
  rw [← hn] at Hone ⊢
  simp only at Hone hc
  have hcI : ((c : Int) != 0) = true := by rw [bne_iff_ne]; omega
  clear hr h hm hn
  go_enter Try.func13, Try.ntmps13
  refine wp_holdQ fun R HR => ?_
  refine wp_hold fun C HC => ?_
  go_wp2_with fail
  refine wp_name fun wa hwa => ?_
  obtain ⟨B, hB⟩ : ∃ B, B = w.heap.size := ⟨_, rfl⟩
  have S : Hid (St w wa [thObj B (.cells #[.int .i64 0, .int .i64 0, .int .i64 0, .int .i64 0, .int .i64 0, .int .i64 0, .int .i64 0, .int .i64 0, .string ⟨#[]⟩, .string ⟨#[]⟩, .int .i64 0, .int .i64 0, .int .i64 0, .string ⟨#[]⟩, .string ⟨#[]⟩, .string ⟨#[]⟩, .string ⟨#[]⟩, .int .i64 0, .int .i64 0, .int .i64 0, .bool false, .int .i64 0, .int .i64 0, .int .i64 0, .int .i64 0, .int .i64 0, .int .i64 0, .int .i64 0, .int .i64 0, .int .i64 0, .slice none 0 0, .int .i64 0, .int .i64 0, .int .i64 0, .int .i64 0, .string ⟨#[]⟩, .slice none 0 0] 40 (0, 0))]) := by rw [hwa]; exact Lib.hid ((St.start w).objN _ B hB)
  rw [← hB]
  clear hwa hB
  (have hC := HC.out); clear HC; subst hC
  refine wp_hold fun C HC => ?_
  go_wp2_with fail
  refine (Hone.out wa S.out.b).mono ?_
  rintro e w1 ⟨qo, qc, rfl, -, hb1⟩
  have S := Lib.hid (S.out.grow hb1)
  clear hb1
  go_wp2_with fail
  (have hC := HC.out); clear HC; subst hC
  refine wp_seq ?_
  refine wp_hold fun C HC => ?_
  go_wp2_with fail
  (have hC := HC.out); clear HC; subst hC
  refine wp_cond_true rfl ?_
  refine wp_seq ?_
  refine wp_region_lit ?_
  refine list_hold 2 fun L HL => ?_
  simp only [List.take_succ_cons, List.take_zero, List.cons_append, List.nil_append]
  go_wp2_with fail
  (have hL := HL.out); clear HL; subst hL
  simp only [List.drop_succ_cons, List.drop_zero]
  refine wpList_store_row rfl 40 _ _ rfl B #[.int .i64 0, .int .i64 0, .int .i64 0, .int .i64 0, .int .i64 0, .int .i64 0, .int .i64 0, .int .i64 0, .string ⟨#[]⟩, .string ⟨#[]⟩, .int .i64 0, .int .i64 0, .int .i64 0, .string ⟨#[]⟩, .string ⟨#[]⟩, .string ⟨#[]⟩, .string ⟨#[]⟩, .int .i64 0, .int .i64 0, .int .i64 0, .bool false, .int .i64 0, .int .i64 0, .int .i64 0, .int .i64 0, .int .i64 0, .int .i64 0, .int .i64 0, .int .i64 0, .int .i64 0, .slice none 0 0, .int .i64 0, .int .i64 0, .int .i64 0, .int .i64 0, .string ⟨#[]⟩, .slice none 0 0] rfl rfl 40 _ S.out.head (by kernel_rfl) rfl (by simp [Value.oneCell']) ?_
  have S2 := Lib.hid (S.out.setRow37 #[.int .i64 0, .int .i64 0, .int .i64 0, .int .i64 0, .int .i64 0, .int .i64 0, .int .i64 0, .int .i64 0, .string ⟨#[]⟩, .string ⟨#[]⟩, .int .i64 0, .int .i64 0, .int .i64 0, .string ⟨#[]⟩, .string ⟨#[]⟩, .string ⟨#[]⟩, .string ⟨#[]⟩, .int .i64 0, .int .i64 0, .int .i64 0, .bool false, .int .i64 0, .int .i64 0, .int .i64 0, .int .i64 0, .int .i64 0, .int .i64 0, .int .i64 0, .int .i64 0, .int .i64 0, .slice none 0 0, .int .i64 0, .int .i64 0, .int .i64 0, .int .i64 0, .string ⟨#[]⟩, .slice none 0 0])
  clear S
  refine list_name fun w2 hw2 => ?_
  rw [← hw2] at S2
  clear hw2
  go_wp2_with fail
  (have hR := HR.out); clear HR; subst hR
  go_wp2_with fail
  refine bodyPost_ret (results_row_tmp rfl _ _ B 40 _ (0, 0) _ rfl S2.out.head Try.underlying40 rfl (by kernel_rfl)) rfl ⟨c, by omega, rfl, S2.out.b⟩
end Go.Proofs.Ythlcmjgdilebeaa

