/- The contract of heavy. -/
import Derived.Test.YtcboflabjdiadaaNetSend
namespace Go.Proofs.Ytcboflabjdiadaa
open Go.RowKit

/-- An act in memory. -/
structure Ac where
  k : Int
  n : Int
  m : Int
  y : UInt8
  mo : Option Addr
  mc : Nat
  ms : List Ms
structure AcAt (w : World) (b o : Nat) (a : Ac) : Prop where
  c0 : w.cell? ⟨b, o, none⟩ = some (.int .i64 a.k)
  c1 : w.cell? ⟨b, o + 1, none⟩ = some (.int .i64 a.n)
  c2 : w.cell? ⟨b, o + 2, none⟩ = some (.int .i64 a.m)
  c3 : w.cell? ⟨b, o + 3, none⟩ = some (.int .u8 (a.y.toNat : Int))
  c4 : w.cell? ⟨b, o + 4, none⟩ = some (.slice a.mo a.ms.length a.mc)
  hm : MsAt w a.mo a.ms
  hl : a.ms.length * 40 ≤ 140737488351232
  h0 : a.mo = none → a.ms.length = 0 ∧ a.mc = 0
def AcsAt (w : World) (ao : Option Addr) (A : List Ac) : Prop := 0 < A.length → ∃ b off, ao = some ⟨b, off, none⟩ ∧ b < w.heap.size ∧ ∀ i, (hi : i < A.length) → AcAt w b (off + i * 5) A[i]
theorem AcAt.grow {w w' : World} {b o : Nat} {a : Ac} (h : AcAt w b o a) (hb : b < w.heap.size) (g : Below w.heap.size w w') : AcAt w' b o a :=
  ⟨(g.cell (p := ⟨b, _, none⟩) hb).trans h.c0, (g.cell (p := ⟨b, _, none⟩) hb).trans h.c1, (g.cell (p := ⟨b, _, none⟩) hb).trans h.c2, (g.cell (p := ⟨b, _, none⟩) hb).trans h.c3, (g.cell (p := ⟨b, _, none⟩) hb).trans h.c4, h.hm.grow g, h.hl, h.h0⟩
theorem AcsAt.grow {w w' : World} {ao : Option Addr} {A : List Ac} (h : AcsAt w ao A) (g : Below w.heap.size w w') : AcsAt w' ao A := fun hp => by
  obtain ⟨b, off, e, hb, hr⟩ := h hp
  exact ⟨b, off, e, Nat.lt_of_lt_of_le hb g.size, fun i hi => (hr i hi).grow hb g⟩
set_option maxRecDepth 20000 in
set_option maxHeartbeats 4000000 in
theorem heavy_any (ao : Option Addr) (cap : Nat) (A : List Ac) (w : World) (h : AcsAt w ao A) (hm : A.length ≤ 9223372036854775807) :
    Calls Try.prog 9 #[.slice ao A.length cap] w fun e w' => (e = .returned (.bool true) ∨ e = .returned (.bool false)) ∧ w = w' := by
  have H := Lib.hid h
  clear h
  go_enter Try.func9, Try.ntmps9
  go_wp2_with fail
  go_loopw [3, 4, 5] (fun s3 s4 _ wr => wr = w ∧ ∃ n i : Nat, s3 = .int .i64 n ∧ s4 = .int .i64 i ∧ n ≤ 8000 ∧ i ≤ A.length) (fun _ s4 _ _ => A.length - (intOf s4).toNat)
  case atStart => exact ⟨rfl, 0, 0, rfl, rfl, by omega, by omega⟩
  case round =>
    obtain ⟨rfl, n, i, rfl, rfl, hn, hi⟩ := hrel
    by_cases hlt : i < A.length
    · by_cases hst : i < 150
      · obtain ⟨b, off, rfl, hb, hr⟩ := H.out (by omega)
        have hra := hr i hlt
        obtain ⟨ak, an, am, ay, mo, mc, ms, hA⟩ : ∃ ak an am ay mo mc ms, (⟨ak, an, am, ay, mo, mc, ms⟩ : Ac) = A[i] := ⟨_, _, _, _, _, _, _, rfl⟩
        rw [← hA] at hra
        have c4 : wr.cell? ⟨b, off + i * 5 + 4, none⟩ = some (.slice mo ms.length mc) := hra.c4
        have hml : ms.length * 40 ≤ 140737488351232 := hra.hl
        have HM : Hid (MsAt wr mo ms) := hra.hm
        clear hra hr hA
        go_wp2_with fail
        go_loopw [3, 5] (fun s3 s5 wx => wx = wr ∧ ∃ n k : Nat, s3 = .int .i64 n ∧ s5 = .int .i64 k ∧ n ≤ 8000 ∧ k ≤ ms.length) (fun _ s5 _ => ms.length - (intOf s5).toNat)
        case atStart => exact ⟨rfl, n, 0, rfl, rfl, hn, by omega⟩
        case round =>
          obtain ⟨rfl, n, k, rfl, rfl, hn, hk⟩ := hrel
          by_cases hkl : k < ms.length
          · obtain ⟨b2, off2, rfl, hb2, hr2⟩ := HM.out (by omega)
            obtain ⟨-, -, d2, -, -, hbl, -⟩ := hr2 k hkl
            obtain ⟨xo, xl, xc, h1, h2, h3⟩ : ∃ xo xl xc, xo = ms[k].ao ∧ xl = ms[k].bs.length ∧ xc = ms[k].cap := ⟨_, _, _, rfl, rfl, rfl⟩
            rw [← h1, ← h2, ← h3] at d2
            rw [← h2] at hbl
            clear h1 h2 h3 hr2
            by_cases hbig : (8000 : Int) < n + 5 + xl
            · go_wp2_with fail
              go_ret
              exact ⟨.inl rfl, rfl⟩
            · go_wp2_with fail
              go_roundw
              case rel => exact ⟨trivial, n + 5 + xl, k + 1, by go_num, by go_num, by omega, by omega⟩
              case measure => simp [intOf]; omega
          · obtain rfl : k = ms.length := by omega
            go_wp2_with fail
            go_roundw
            case rel => exact ⟨trivial, n, i + 1, rfl, by go_num, hn, by omega⟩
            case measure => simp [intOf]; omega
      · have hd : decide ((i : Int) < 150) = false := by rw [decide_eq_false_iff_not]; omega
        go_wp2_with fail
        go_ret
        exact ⟨.inr rfl, rfl⟩
    · go_wp2_with fail
      go_ret
      exact ⟨.inr rfl, rfl⟩
end Go.Proofs.Ytcboflabjdiadaa
