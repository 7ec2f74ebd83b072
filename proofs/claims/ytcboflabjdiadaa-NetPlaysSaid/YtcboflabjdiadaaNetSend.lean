/- The contract of Send. -/
import Derived.Test.YtcboflabjdiadaaNetLays
namespace Go.Proofs.Ytcboflabjdiadaa
open Go.RowKit

/-- What a message says. -/
def ct (m : Ms) : Int × Int × List UInt8 × Bool := (m.f, m.t, m.bs, m.sp)
/-- Messages lie behind a slice's address, three cells each. -/
def MsAt (w : World) (mo : Option Addr) (M : List Ms) : Prop := 0 < M.length → ∃ b off, mo = some ⟨b, off, none⟩ ∧ b < w.heap.size ∧ ∀ i, (hi : i < M.length) →
  w.cell? ⟨b, off + i * 3, none⟩ = some (.int .i64 M[i].f) ∧ w.cell? ⟨b, off + i * 3 + 1, none⟩ = some (.int .i64 M[i].t) ∧ w.cell? ⟨b, off + i * 3 + 2, none⟩ = some (.slice M[i].ao M[i].bs.length M[i].cap) ∧ (M[i].ao = none → M[i].bs.length = 0 ∧ M[i].cap = 0) ∧ BAt w M[i].ao M[i].bs ∧ M[i].bs.length ≤ 140737488351232 ∧ M[i].sp = false
theorem MsAt.grow {w w' : World} {mo : Option Addr} {M : List Ms} (h : MsAt w mo M) (b : Below w.heap.size w w') : MsAt w' mo M := fun hp => by
  obtain ⟨x, off, e, hx, hr⟩ := h hp
  refine ⟨x, off, e, Nat.lt_of_lt_of_le hx b.size, fun i hi => ?_⟩
  obtain ⟨a1, a2, a3, a4, a5, a6, a7⟩ := hr i hi
  exact ⟨(b.cell (p := ⟨x, _, none⟩) hx).trans a1, (b.cell (p := ⟨x, _, none⟩) hx).trans a2, (b.cell (p := ⟨x, _, none⟩) hx).trans a3, a4, a5.below b, a6, a7⟩
/-- How many of n messages find a place behind k. -/
def fits (k n : Nat) : Nat := min n (1024 - k)
def SendPost (W : World) (R : List Th) (p : Nat) (l M : List Ms) (e : Ending) (w' : World) : Prop := ∃ ro' rc' N, e = .returned (.int .i64 (fits l.length M.length : Nat)) ∧ N.map ct = (M.take (fits l.length M.length)).map ct ∧ St W w' (netnetL W.heap.size p ro' rc' (l ++ N) ++ R)
set_option maxRecDepth 20000 in
set_option maxHeartbeats 4000000 in
theorem send_any (W w : World) (R : List Th) (p : Nat) (ro : Option Addr) (rc : Nat) (l : List Ms) (mo : Option Addr) (mc : Nat) (M : List Ms) (h : St W w (netnetL W.heap.size p ro rc l ++ R)) (hl : l.length ≤ 1024) (hM : ∀ w' X, St W w' (X ++ R) → MsAt w' mo M) (hMm : M.length ≤ 9223372036854775807) :
    Calls Try.prog 11 #[.pointer (some ⟨p, 0, none⟩), .slice mo M.length mc] w (SendPost W R p l M) := by
  have H := Lib.hid h
  have HM := Lib.hid hM
  clear h hM
  go_enter Try.func11, Try.ntmps11
  go_wp2_with fail
  go_loopw [5, 10] (fun s5 s10 wr => ∃ (k m : Nat) (ro' : Option Addr) (rc' : Nat) (N : List Ms), s10 = .int .i64 k ∧ s5 = .int .i64 m ∧ k ≤ M.length ∧ m ≤ k ∧ Hid (m = fits l.length k) ∧ Hid (N.map ct = (M.take m).map ct) ∧ Hid (St W wr (netnetL W.heap.size p ro' rc' (l ++ N) ++ R))) (fun _ s10 _ => M.length - (intOf s10).toNat)
  case atStart => exact ⟨0, 0, ro, rc, [], rfl, rfl, by omega, by omega, (by simp [Hid, fits]), rfl, by simpa [Hid] using H⟩
  case round =>
    obtain ⟨k, m, ro', rc', N, rfl, rfl, hk, hmk, Hm, HN, S⟩ := hrel
    have hNm : N.length = m := by
      have h1 := congrArg List.length HN.out
      simp only [List.length_map, List.length_take] at h1
      omega
    have HNm := Lib.hid hNm
    clear hNm H
    by_cases hlt : k < M.length
    · obtain ⟨b, off, rfl, hb, hr⟩ := HM.out wr _ S.out (by omega)
      obtain ⟨c0, c1, c2, n0, hat, hml, hsp⟩ := hr k hlt
      obtain ⟨f, t, ao, cap, bs, sp, hq⟩ : ∃ f t ao cap bs sp, (⟨f, t, ao, cap, bs, sp⟩ : Ms) = M[k] := ⟨_, _, _, _, _, _, rfl⟩
      rw [← hq] at c0 c1 c2 n0 hat hml hsp
      simp only at c0 c1 c2 n0 hat hml hsp
      subst hsp
      have Hq := Lib.hid hq
      have Hn0 := Lib.hid n0
      have Hat := Lib.hid hat
      clear hr hq n0 hat
      by_cases hfull : (l ++ N).length < 1024
      · have hf1 : fits l.length (k + 1) = m + 1 := by
          have := Hm.out; have h2 := HNm.out
          rw [List.length_append] at hfull
          unfold fits at this ⊢
          omega
        have Hf1 := Lib.hid hf1
        clear hf1
        go_wp2_with fail
        refine (lays_yes W _ R p ro' rc' (l ++ N) f t ao cap bs false (S.out.grow (below_allocN _ _)) hfull Hn0.out (Hat.out.below (below_allocN _ _)) hml).mono ?_
        rintro e w1 ⟨ro2, rc2, ao2, cap2, rfl, hS⟩
        have hS2 := Lib.hid hS
        clear hS
        go_wp2_with fail
        go_roundw
        case rel => exact ⟨k + 1, m + 1, ro2, rc2, N ++ [⟨f, t, ao2, cap2, bs, false⟩], by go_num, by go_num, by omega, by omega, Hf1.out.symm, (by
          have hmk2 : m = k := by
            have h1 := Hf1.out; have h2 := Hm.out
            unfold fits at h1 h2
            omega
          subst hmk2
          show List.map ct (N ++ _) = _
          rw [List.map_append, HN.out, List.take_succ_eq_append_getElem hlt, List.map_append, ← Hq.out]
          rfl), by rw [← List.append_assoc]; exact hS2⟩
        case measure => simp [intOf]; omega
      · have hf1 : fits l.length (k + 1) = m := by
          have := Hm.out; have h2 := HNm.out
          rw [List.length_append] at hfull
          unfold fits at this ⊢
          omega
        have Hf1 := Lib.hid hf1
        have hfull2 : 1024 ≤ (l ++ N).length := by omega
        clear hf1 hfull
        go_wp2_with fail
        refine (lays_no W _ R p ro' rc' (l ++ N) f t ao cap bs false (S.out.grow (below_allocN _ _)) hfull2).mono ?_
        rintro e w1 ⟨rfl, hb1⟩
        have hS2 := Lib.hid (S.out.grow ((below_allocN wr (.cells #[.int .i64 f, .int .i64 t, .slice ao bs.length cap] 35)).trans (hb1.mono (by simp))))
        clear hb1
        go_wp2_with fail
        go_roundw
        case rel => exact ⟨k + 1, m, ro', rc', N, by go_num, rfl, by omega, by omega, Hf1.out.symm, HN, hS2⟩
        case measure => simp [intOf]; omega
    · obtain rfl : k = M.length := by omega
      go_wp2_with fail
      go_ret
      refine ⟨ro', rc', N, by rw [Hm.out]; rfl, by rw [← Hm.out]; exact HN.out, S.out⟩
theorem send_nil (mo : Option Addr) (mc : Nat) (M : List Ms) (w : World) (hM : MsAt w mo M) (hMm : M.length ≤ 9223372036854775807) :
    Calls Try.prog 11 #[.pointer none, .slice mo M.length mc] w fun e w' => e = .returned (.int .i64 0) ∧ Below w.heap.size w w' := by
  have HM := Lib.hid hM
  clear hM
  go_enter Try.func11, Try.ntmps11
  go_wp2_with fail
  go_loopw [5, 10] (fun s5 s10 wr => ∃ k : Nat, s10 = .int .i64 k ∧ s5 = .int .i64 0 ∧ k ≤ M.length ∧ Hid (Below w.heap.size w wr)) (fun _ s10 _ => M.length - (intOf s10).toNat)
  case atStart => exact ⟨0, rfl, rfl, by omega, Below.refl _ _⟩
  case round =>
    obtain ⟨k, rfl, rfl, hk, HB⟩ := hrel
    have hs := HB.out.size
    by_cases hlt : k < M.length
    · obtain ⟨b, off, rfl, hb, hr⟩ := (HM.out.grow HB.out) (by omega)
      obtain ⟨c0, c1, c2, -, -, -, -⟩ := hr k hlt
      obtain ⟨f, t, ao, n, cap, hq⟩ : ∃ f t ao n cap, f = M[k].f ∧ t = M[k].t ∧ ao = M[k].ao ∧ n = M[k].bs.length ∧ cap = M[k].cap := ⟨_, _, _, _, _, rfl, rfl, rfl, rfl, rfl⟩
      rw [← hq.1] at c0
      rw [← hq.2.1] at c1
      rw [← hq.2.2.1, ← hq.2.2.2.1, ← hq.2.2.2.2] at c2
      clear hq hr
      go_wp2_with fail
      go_roundw
      case rel => exact ⟨k + 1, by go_num, rfl, by omega, Lib.hid (HB.out.alloc hs _)⟩
      case measure => simp [intOf]; omega
    · go_wp2_with fail
      go_ret
      exact ⟨rfl, HB.out⟩
end Go.Proofs.Ytcboflabjdiadaa
