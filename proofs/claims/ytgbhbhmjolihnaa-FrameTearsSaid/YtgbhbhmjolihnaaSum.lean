/- The check sum: octet.Sum and the document's. -/
import Derived.Test.YtgbhbhmjolihnaaNum
import Derived.Test.YtgbhbhmjolihnaaRws
import Derived.Laws.Bits64b
namespace Go.Proofs.Ytgbhbhmjolihnaa
open Go.RowKit

def crc1 (v : Nat) : Nat := (v / 2) ^^^ (if v % 2 = 1 then 3988292384 else 0)
def crcN : Nat → Nat → Nat
  | 0, v => v
  | n + 1, v => crc1 (crcN n v)
def crcB (v : Nat) (c : UInt8) : Nat := crcN 8 (v ^^^ c.toNat)
def crcOf (v : Nat) (l : List UInt8) : Nat := l.foldl crcB v
def sumOf (l : List UInt8) : Nat := 4294967295 ^^^ crcOf 4294967295 l
theorem wrap_u32 (n : Int) : IntKind.u32.wrap n = n % 4294967296 := by simp [IntKind.wrap, IntKind.bits, IntKind.signed]
theorem bits_xor_u32 (a b : Nat) (ha : a < 4294967296) (hb : b < 4294967296) : bits .xor .u32 (a : Int) (b : Int) = ((a ^^^ b : Nat) : Int) := by
  have hx : a ^^^ b < 2 ^ 32 := Nat.xor_lt_two_pow (by omega) (by omega)
  have h1 : (BitVec.ofInt 32 (a : Int)).toNat = a := by
    rw [BitVec.ofInt_natCast, BitVec.toNat_ofNat]; exact Nat.mod_eq_of_lt (by omega)
  have h2 : (BitVec.ofInt 32 (b : Int)).toNat = b := by
    rw [BitVec.ofInt_natCast, BitVec.toNat_ofNat]; exact Nat.mod_eq_of_lt (by omega)
  show IntKind.u32.wrap ((BitVec.ofInt 32 (a : Int) ^^^ BitVec.ofInt 32 (b : Int)).toNat : Int) = _
  rw [BitVec.toNat_xor, h1, h2, wrap_u32]
  omega
theorem bits_and_u32 (a b : Nat) (ha : a < 4294967296) (hb : b < 4294967296) : bits .and .u32 (a : Int) (b : Int) = ((a &&& b : Nat) : Int) :=
  (bits_nat .u32 32 (by decide) (fun n h0 h1 => by rw [wrap_u32]; omega) a b (by omega) (by omega)).1
theorem crc1_lt {x : Nat} (h : x < 4294967296) : crc1 x < 4294967296 := by
  unfold crc1
  have : x / 2 ^^^ (if x % 2 = 1 then 3988292384 else 0) < 2 ^ 32 := Nat.xor_lt_two_pow (by omega) (by split <;> omega)
  omega
theorem crcN_lt {x : Nat} (h : x < 4294967296) : ∀ n, crcN n x < 4294967296
  | 0 => h
  | n + 1 => crc1_lt (crcN_lt h n)
theorem xor_lt {u : Nat} (h : u < 4294967296) (c : UInt8) : u ^^^ c.toNat < 4294967296 := by
  have := c.toNat_lt
  have : u ^^^ c.toNat < 2 ^ 32 := Nat.xor_lt_two_pow (by omega) (by omega)
  omega
theorem crcB_lt {u : Nat} (h : u < 4294967296) (c : UInt8) : crcB u c < 4294967296 := crcN_lt (xor_lt h c) 8
theorem crcOf_lt : ∀ (l : List UInt8) {u : Nat}, u < 4294967296 → crcOf u l < 4294967296
  | [], _, h => h
  | c :: r, _, h => crcOf_lt r (crcB_lt h c)
/-- One step of the check sum as the machine reckons it. -/
theorem bits_crc (x : Nat) (hx : x < 4294967296) : bits .xor .u32 ((x : Int) / 2) (bits .and .u32 3988292384 (-bits .and .u32 (x : Int) 1 % 4294967296)) = (crc1 x : Int) := by
  have h1 : bits .and .u32 (x : Int) 1 = ((x % 2 : Nat) : Int) := by
    rw [show (1 : Int) = ((1 : Nat) : Int) from rfl, bits_and_u32 x 1 hx (by omega), Nat.and_one_is_mod]
  have h2 : ((x : Int) / 2) = ((x / 2 : Nat) : Int) := by omega
  rw [h1, h2]
  unfold crc1
  rcases Nat.mod_two_eq_zero_or_one x with h | h
  · rw [h, show bits .and .u32 3988292384 (-((0 : Nat) : Int) % 4294967296) = ((0 : Nat) : Int) from by decide, bits_xor_u32 _ _ (by omega) (by omega)]
    rfl
  · rw [h, show bits .and .u32 3988292384 (-((1 : Nat) : Int) % 4294967296) = ((3988292384 : Nat) : Int) from by decide, bits_xor_u32 _ _ (by omega) (by omega)]
    rfl
theorem crcOf_take {v j : Nat} {l : List UInt8} (h : j < l.length) : crcOf v (l.take (j + 1)) = crcB (crcOf v (l.take j)) l[j] := by
  rw [List.take_succ_eq_append_getElem h]
  simp only [crcOf, List.foldl_append, List.foldl_cons, List.foldl_nil]
theorem crcOf_append (v : Nat) (a b : List UInt8) : crcOf v (a ++ b) = crcOf (crcOf v a) b := by simp only [crcOf, List.foldl_append]
set_option maxHeartbeats 2000000 in
theorem sum_any (ao : Option Addr) (cap : Nat) (L : List RowR) (w : World) (D : Nat → Prop) (h : RsAt w D ao L) (hm : L.length ≤ 9223372036854775807) :
    Calls Try.prog 25 #[.slice ao L.length cap] w fun e w' => e = .returned (.int .u32 (sumOf (flatR L))) ∧ w' = w := by
  have H := Lib.hid h
  clear h
  go_enter Try.func25, Try.ntmps25
  go_wp2_with fail
  go_loopw [10, 3] (fun s10 s3 wr => wr = w ∧ ∃ (k v : Nat), s10 = .int .i64 k ∧ s3 = .int .u32 v ∧ k ≤ L.length ∧ v < 4294967296 ∧ Hid (v = crcOf 4294967295 (flatR (L.take k)))) (fun s10 _ _ => L.length - (intOf s10).toNat)
  case atStart => exact ⟨rfl, 0, 4294967295, rfl, rfl, by omega, by omega, rfl⟩
  case round =>
    obtain ⟨rfl, k, v, rfl, rfl, hk, hv, hst⟩ := hrel
    by_cases hlt : (k : Int) < L.length
    · obtain ⟨b, off, rfl, hb, -, hr⟩ := H.out (by omega)
      obtain ⟨ro, rc, rb, hrr⟩ : ∃ ro rc rb, (⟨ro, rc, rb⟩ : RowR) = L[k]'(by omega) := ⟨_, _, _, rfl⟩
      have hra := hr k (by omega)
      rw [← hrr] at hra
      have Hrr := Lib.hid hrr
      have c0 := hra.c
      have hle := hra.le
      have hcm := hra.cm
      have hat : BIn _ D ro rb := hra.at_
      have Hat := Lib.hid hat
      clear hra hr hrr hat
      simp only at c0 hle hcm
      go_wp2_with fail
      go_loopw [16, 3] (fun s16 s3 w2 => w2 = wr ∧ ∃ (j u : Nat), s16 = .int .i64 j ∧ s3 = .int .u32 u ∧ j ≤ rb.length ∧ u < 4294967296 ∧ Hid (u = crcOf v (rb.take j))) (fun s16 _ _ => rb.length - (intOf s16).toNat)
      case atStart => exact ⟨rfl, 0, v, rfl, rfl, by omega, hv, rfl⟩
      case round =>
        obtain ⟨rfl, j, u, rfl, rfl, hj, hu, hs2⟩ := hrel
        by_cases hlt2 : (j : Int) < rb.length
        · obtain ⟨g, go, hao, hg, -, hrow⟩ := Hat.out (by omega)
          subst hao
          have c1 := hrow j (by omega)
          obtain ⟨c, hc⟩ : ∃ c, c = rb[j]'(by omega) := ⟨_, rfl⟩
          rw [← hc] at c1
          have Hc := Lib.hid hc
          clear hc hrow
          have hc8 : (c.toNat : Int) < 256 := by have := c.toNat_lt; omega
          go_wp2_with fail
          have hux := xor_lt hu c
          have hbx := bits_xor_u32 u c.toNat hu (by omega)
          go_loopw [24, 3] (fun s24 s3 w3 => w3 = wr ∧ ∃ (i x : Nat), s24 = .int .i64 i ∧ s3 = .int .u32 x ∧ i ≤ 8 ∧ x < 4294967296 ∧ Hid (x = crcN i (u ^^^ c.toNat))) (fun s24 _ _ => 8 - (intOf s24).toNat)
          case atStart => exact ⟨rfl, 0, u ^^^ c.toNat, rfl, by rw [hbx], by omega, hux, rfl⟩
          case round =>
            obtain ⟨rfl, i, x, rfl, rfl, hi, hx, hs3⟩ := hrel
            clear hbx
            by_cases hlt3 : (i : Int) < 8
            · have hbc := bits_crc x hx
              have hcl := crc1_lt hx
              go_wp2_with fail
              go_roundw
              case rel => exact ⟨trivial, i + 1, crc1 x, by go_num, rfl, by omega, hcl, by unfold Hid crcN; rw [← hs3.out]⟩
              case measure => simp [intOf]; omega
            · go_wp2_with fail
              go_roundw
              case rel => exact ⟨trivial, j + 1, x, by go_num, rfl, by omega, hx, by
                have h8 : i = 8 := by omega
                subst h8
                unfold Hid
                rw [hs3.out, crcOf_take (by omega), ← hs2.out, Hc.out]
                rfl⟩
              case measure => simp [intOf]; omega
        · go_wp2_with fail
          go_roundw
          case rel => exact ⟨trivial, k + 1, u, by go_num, rfl, by omega, hu, by
            unfold Hid
            rw [hs2.out, List.take_of_length_le (by omega), List.take_succ_eq_append_getElem (by omega)]
            unfold flatR
            rw [List.flatMap_append, crcOf_append]
            simp only [List.flatMap_cons, List.flatMap_nil, List.append_nil]
            rw [← Hrr.out]
            congr 1⟩
          case measure => simp [intOf]; omega
    · go_wp2_with fail
      have hmx : bits .xor .u32 IntKind.u32.max (v : Int) = ((4294967295 ^^^ v : Nat) : Int) := by
        rw [show IntKind.u32.max = ((4294967295 : Nat) : Int) from by decide, bits_xor_u32 _ _ (by omega) hv]
      go_ret
      refine ⟨?_, rfl⟩
      rw [hmx]
      have := hst.out
      rw [List.take_of_length_le (by omega)] at this
      rw [this]
      rfl

set_option maxRecDepth 8000 in
set_option maxHeartbeats 2000000 in
theorem refSum_any (ao : Option Addr) (cap : Nat) (l : List UInt8) (w : World) (h : BAt w ao l) (hm : l.length ≤ 9223372036854775807) :
    Calls Try.prog 30 #[.slice ao l.length cap] w fun e w' => e = .returned (.int .u32 (sumOf l)) ∧ w' = w := by
  have H := Lib.hid h
  clear h
  go_enter Try.func30, Try.ntmps30
  go_wp2_with fail
  go_loopw [4, 3] (fun s4 s3 wr => wr = w ∧ ∃ (j u : Nat), s4 = .int .i64 j ∧ s3 = .int .u32 u ∧ j ≤ l.length ∧ u < 4294967296 ∧ Hid (u = crcOf 4294967295 (l.take j))) (fun s4 _ _ => l.length - (intOf s4).toNat)
  case atStart => exact ⟨rfl, 0, 4294967295, rfl, rfl, by omega, by omega, rfl⟩
  case round =>
    obtain ⟨rfl, j, u, rfl, rfl, hj, hu, hs2⟩ := hrel
    by_cases hlt2 : (j : Int) < l.length
    · obtain ⟨g, go, hao, hg, hrow⟩ := H.out (by omega)
      subst hao
      have c1 := hrow j (by omega)
      obtain ⟨c, hc⟩ : ∃ c, c = l[j]'(by omega) := ⟨_, rfl⟩
      rw [← hc] at c1
      have Hc := Lib.hid hc
      clear hc hrow
      have hc8 : (c.toNat : Int) < 256 := by have := c.toNat_lt; omega
      have hux := xor_lt hu c
      have hbx := bits_xor_u32 u c.toNat hu (by omega)
      go_wp2_with fail
      go_loopw [5, 3] (fun s5 s3 w3 => w3 = wr ∧ ∃ (i x : Nat), s5 = .int .i64 i ∧ s3 = .int .u32 x ∧ i ≤ 8 ∧ x < 4294967296 ∧ Hid (x = crcN i (u ^^^ c.toNat))) (fun s5 _ _ => 8 - (intOf s5).toNat)
      case atStart => exact ⟨rfl, 0, u ^^^ c.toNat, rfl, rfl, by omega, hux, rfl⟩
      case round =>
        obtain ⟨rfl, i, x, rfl, rfl, hi, hx, hs3⟩ := hrel
        clear hbx
        by_cases hlt3 : (i : Int) < 8
        · have hb1 : bits .and .u32 (x : Int) 1 = ((x % 2 : Nat) : Int) := by
            rw [show (1 : Int) = ((1 : Nat) : Int) from rfl, bits_and_u32 x 1 hx (by omega), Nat.and_one_is_mod]
          have hcl := crc1_lt hx
          rcases Nat.mod_two_eq_zero_or_one x with h2 | h2
          · have hb1 : bits .and .u32 (x : Int) 1 = 0 := by rw [hb1, h2]; rfl
            have hcr : crc1 x = x / 2 := by unfold crc1; rw [h2]; simp
            have Hcr := Lib.hid hcr
            clear hcr h2
            go_wp2_with fail
            go_roundw
            case rel => exact ⟨trivial, i + 1, x / 2, by go_num, by first | rfl | (congr 1; omega), by omega, by omega, by unfold Hid crcN; rw [← hs3.out, Hcr.out]⟩
            case measure => simp [intOf]; omega
          · have hb1 : bits .and .u32 (x : Int) 1 = 1 := by rw [hb1, h2]; rfl
            have hcr : bits .xor .u32 ((x : Int) / 2) 3988292384 = (crc1 x : Int) := by
              unfold crc1
              rw [h2, show ((x : Int) / 2) = ((x / 2 : Nat) : Int) from by omega, show (3988292384 : Int) = ((3988292384 : Nat) : Int) from rfl, bits_xor_u32 _ _ (by omega) (by omega)]
              rfl
            clear h2
            go_wp2_with fail
            go_roundw
            case rel => exact ⟨trivial, i + 1, crc1 x, by go_num, rfl, by omega, hcl, by unfold Hid crcN; rw [← hs3.out]⟩
            case measure => simp [intOf]; omega
        · go_wp2_with fail
          go_roundw
          case rel => exact ⟨trivial, j + 1, x, by go_num, rfl, by omega, hx, by
            have h8 : i = 8 := by omega
            subst h8
            unfold Hid
            rw [hs3.out, crcOf_take (by omega), ← hs2.out, Hc.out]
            rfl⟩
          case measure => simp [intOf]; omega
    · go_wp2_with fail
      have hmx : bits .xor .u32 IntKind.u32.max (u : Int) = ((4294967295 ^^^ u : Nat) : Int) := by
        rw [show IntKind.u32.max = ((4294967295 : Nat) : Int) from by decide, bits_xor_u32 _ _ (by omega) hu]
      go_ret
      refine ⟨?_, rfl⟩
      rw [hmx]
      have := hs2.out
      rw [List.take_of_length_le (by omega)] at this
      rw [this]
      rfl
end Go.Proofs.Ytgbhbhmjolihnaa
