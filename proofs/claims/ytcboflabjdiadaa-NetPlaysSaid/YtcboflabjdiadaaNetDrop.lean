/- The contract of Drop. -/
import Derived.Test.YtcboflabjdiadaaNetSpoil
import Derived.Lib.Strings
import Derived.Lib.Slices
import Derived.Lib.Walk
namespace Go.Proofs.Ytcboflabjdiadaa
open Go.RowKit

/-- The numbers lie behind a slice's address. -/
def IntsAt (w : World) (ao : Option Addr) (l : List Int) : Prop := 0 < l.length → ∃ b off, ao = some ⟨b, off, none⟩ ∧ b < w.heap.size ∧ ∀ i, (hi : i < l.length) → w.cell? ⟨b, off + i, none⟩ = some (.int .i64 l[i])
theorem IntsAt.grow {w w' : World} {ao : Option Addr} {l : List Int} (h : IntsAt w ao l) (b : Below w.heap.size w w') : IntsAt w' ao l := fun hp => by
  obtain ⟨x, off, e, hx, hr⟩ := h hp
  exact ⟨x, off, e, Nat.lt_of_lt_of_le hx b.size, fun i hi => (b.cell (p := ⟨x, _, none⟩) hx).trans (hr i hi)⟩
set_option maxHeartbeats 1000000 in
theorem index_any (ao : Option Addr) (cap : Nat) (l : List Int) (x : Int) (w : World) (h : IntsAt w ao l) (hm : l.length ≤ 9223372036854775807) :
    Calls Try.prog 43 #[.slice ao l.length cap, .int .i64 x] w fun e w' => e = .returned (.int .i64 (Lib.idxOf l x)) ∧ w = w' := by
  by_cases hp : 0 < l.length
  · obtain ⟨b, off, rfl, hb, hc⟩ := h hp
    have hgd : ∀ j, (hj : j < l.length) → l.getD j 0 = l[j] := fun j hj => by simp [List.getD, List.getElem?_eq_getElem hj]
    have Hc := Lib.hid hc
    have Hgd := Lib.hid hgd
    clear hc h hgd
    go_enter Try.func43, Try.ntmps43
    go_wp2_with fail
    go_loop [5, 8] (fun _ i => ∃ k : Nat, k ≤ l.length ∧ i = .int .i64 k ∧ Hid (∀ j, j < k → l.getD j 0 ≠ x)) (fun _ i => l.length - (intOf i).toNat)
    case atStart => exact ⟨0, Nat.zero_le _, rfl, fun j hj => absurd hj (Nat.not_lt_zero _)⟩
    case round =>
      obtain ⟨k, hk, rfl, hne⟩ := hrel
      by_cases hlt : k < l.length
      · have c0 := Hc.out k hlt
        obtain ⟨y, hy⟩ : ∃ y, y = l[k] := ⟨_, rfl⟩
        rw [← hy] at c0
        have Hy := Lib.hid hy
        clear hy
        by_cases he : x = y
        · have heq : (x == y) = true := by simpa using he
          have HE := Lib.hid he
          clear he
          go_wp2_with fail
          go_ret
          refine ⟨?_, rfl⟩
          have hi := Lib.idxOf_hit l l.length k x hlt (Nat.le_refl _) (by rw [Hgd.out k hlt, ← Hy.out, HE.out]) hne.out
          rw [List.take_length] at hi
          rw [hi]
          rfl
        · have heq : (x == y) = false := by simpa using he
          have HE := Lib.hid he
          clear he
          go_wp2_with fail
          go_roundw
          case rel => exact ⟨k + 1, by omega, by go_num, fun j hj => by
            by_cases e : j = k
            · subst e; rw [Hgd.out j hlt, ← Hy.out]; exact fun e => HE.out e.symm
            · exact hne.out j (by omega)⟩
          case measure => simp [intOf]; omega
      · go_wp2_with fail
        go_ret
        refine ⟨?_, rfl⟩
        have hi := Lib.idxOf_miss l l.length x (fun j hj => hne.out j (by omega))
        rw [List.take_length] at hi
        rw [hi]
        rfl
  · have h1 : l = [] := List.length_eq_zero_iff.1 (by omega)
    subst h1
    clear h
    go_enter Try.func43, Try.ntmps43
    go_wp2_with fail
    refine wp_loop_rounds 1 ?_
    rw [rounds_succ]
    go_wp2_with fail
    go_ret
    exact ⟨rfl, rfl⟩
theorem contains_any (ao : Option Addr) (cap : Nat) (l : List Int) (x : Int) (b : Bool) (w : World) (h : IntsAt w ao l) (hm : l.length ≤ 9223372036854775807) (hb : b = l.contains x) :
    Calls Try.prog 37 #[.slice ao l.length cap, .int .i64 x] w fun e w' => e = .returned (.bool b) ∧ w = w' := by
  have hbb : decide (0 ≤ Lib.idxOf l x) = b := by rw [hb, Bool.eq_iff_iff, decide_eq_true_eq, Lib.idxOf_nonneg_iff]
  obtain ⟨z, hz⟩ : ∃ z, z = Lib.idxOf l x := ⟨_, rfl⟩
  have Hi := Lib.hid (index_any ao cap l x w h hm)
  rw [← hz] at Hi hbb
  subst hbb
  clear hz hb h
  go_enter Try.func37, Try.ntmps37
  go_wp2_with fail
  refine Hi.out.mono ?_
  rintro e w' ⟨rfl, rfl⟩
  go_wp2_with fail
  go_ret
  exact ⟨rfl, rfl⟩
/-- Whether a message is one from or to the numbers. -/
def hits (l : List Int) (m : Ms) : Bool := l.contains m.f || l.contains m.t
theorem drop1_any (B : Nat) (no : Option Addr) (nc : Nat) (l : List Int) (m : Ms) (w : World) (h : IntsAt w no l) (hm : l.length ≤ 9223372036854775807) (hB : w.cell? ⟨B, 0, none⟩ = some (.slice no l.length nc)) (b : Bool) (hb : hits l m = b) :
    Calls Try.prog 36 #[msA m, .pointer (some ⟨B, 0, none⟩)] w fun e w' => e = .returned (.bool b) ∧ Below w.heap.size w w' := by
  subst hb
  have hBlt := lt_of_cellN hB
  have HN := Lib.hid h
  clear h
  obtain ⟨f, t, ao, cap, bs, sp⟩ := m
  by_cases hf : l.contains f = true
  · have hh : hits l ⟨f, t, ao, cap, bs, sp⟩ = true := by simp only [hits, hf, Bool.true_or]
    rw [hh]
    have HF := Lib.hid hf
    clear hf hh
    unfold msA
    go_enter Try.func36, Try.ntmps36
    go_wp2_with fail
    refine (contains_any no nc l f true _ (HN.out.grow (below_allocN _ _)) hm HF.out.symm).mono ?_
    rintro e w1 ⟨rfl, rfl⟩
    go_wp2_with fail
    go_ret
    exact ⟨rfl, (by repeat (first | with_reducible exact Below.refl _ _ | with_reducible assumption | with_reducible refine Below.drew ?_ | with_reducible refine below_drawn ?_ | with_reducible refine Below.alloc ?_ (by first | omega | (simp; done) | (simp; omega) | (simp at *; omega)) _ | with_reducible refine Below.setCell ?_ (by first | omega | (simp; done) | (simp; omega) | (simp at *; omega)) _ | with_reducible refine Below.trans ?_ (Below.mono (by assumption) (by first | omega | (simp; done) | (simp; omega) | (simp at *; omega)))))⟩
  · have hf2 : l.contains f = false := by simpa using hf
    obtain ⟨b, hb⟩ : ∃ b, b = l.contains t := ⟨_, rfl⟩
    have hh : hits l ⟨f, t, ao, cap, bs, sp⟩ = b := by simp only [hits, hf2, Bool.false_or, hb]
    rw [hh]
    have HF := Lib.hid hf2
    have Hb := Lib.hid hb
    clear hf hh hf2 hb
    unfold msA
    go_enter Try.func36, Try.ntmps36
    go_wp2_with fail
    refine (contains_any no nc l f false _ (HN.out.grow (below_allocN _ _)) hm HF.out.symm).mono ?_
    rintro e w1 ⟨rfl, rfl⟩
    go_wp2_with fail
    refine (contains_any no nc l t b _ (HN.out.grow (below_allocN _ _)) hm Hb.out).mono ?_
    rintro e w1 ⟨rfl, rfl⟩
    go_wp2_with fail
    go_ret
    exact ⟨rfl, (by repeat (first | with_reducible exact Below.refl _ _ | with_reducible assumption | with_reducible refine Below.drew ?_ | with_reducible refine below_drawn ?_ | with_reducible refine Below.alloc ?_ (by first | omega | (simp; done) | (simp; omega) | (simp at *; omega)) _ | with_reducible refine Below.setCell ?_ (by first | omega | (simp; done) | (simp; omega) | (simp at *; omega)) _ | with_reducible refine Below.trans ?_ (Below.mono (by assumption) (by first | omega | (simp; done) | (simp; omega) | (simp at *; omega)))))⟩
/-- Messages lie in the block g. -/
def RowAt (w : World) (g : Nat) (L : List Ms) : Prop := g < w.heap.size ∧ ∀ i, (hi : i < L.length) → w.cell? ⟨g, i * 4, none⟩ = some (.int .i64 L[i].f) ∧ w.cell? ⟨g, i * 4 + 1, none⟩ = some (.int .i64 L[i].t) ∧ w.cell? ⟨g, i * 4 + 2, none⟩ = some (.slice L[i].ao L[i].bs.length L[i].cap) ∧ w.cell? ⟨g, i * 4 + 3, none⟩ = some (.bool L[i].sp)
theorem RowAt.grow {w w' : World} {g : Nat} {L : List Ms} (h : RowAt w g L) (b : Below w.heap.size w w') : RowAt w' g L :=
  ⟨Nat.lt_of_lt_of_le h.1 b.size, fun i hi => by
    obtain ⟨h1, h2, h3, h4⟩ := h.2 i hi
    exact ⟨(b.cell (p := ⟨g, _, none⟩) h.1).trans h1, (b.cell (p := ⟨g, _, none⟩) h.1).trans h2, (b.cell (p := ⟨g, _, none⟩) h.1).trans h3, (b.cell (p := ⟨g, _, none⟩) h.1).trans h4⟩⟩
theorem owns_rowAt {w : World} {base g cap : Nat} {L : List Ms} (h : w.ownsRow base 59 4 (.slice (some ⟨g, 0, none⟩) L.length cap) L.length (msR L)) : RowAt w g L := by
  refine ⟨(h.lt g rfl).2, fun i hi => ?_⟩
  have hc : ∀ j, j < 4 → w.cell? ⟨g, i * 4 + j, none⟩ = (msV L[i])[j]? := fun j hj => by rw [← msR_get L i hi j hj]; simpa using h.cellAt (i * 4 + j) (by omega)
  exact ⟨hc 0 (by omega), hc 1 (by omega), hc 2 (by omega), hc 3 (by omega)⟩
set_option maxRecDepth 20000 in
set_option maxHeartbeats 1000000 in
theorem indexFunc_yes (g cap : Nat) (L : List Ms) (B : Nat) (no : Option Addr) (nc : Nat) (l : List Int) (w : World) (h : RowAt w g L) (hN : ∀ w', Below w.heap.size w w' → IntsAt w' no l ∧ w'.cell? ⟨B, 0, none⟩ = some (.slice no l.length nc)) (hm : l.length ≤ 9223372036854775807) (hL : L.length ≤ 1024)
    (z : Nat) (hz : z < L.length) (hzh : hits l L[z] = true) (hzn : ∀ j, (hj : j < L.length) → j < z → hits l L[j] = false) :
    Calls Try.prog 42 #[.slice (some ⟨g, 0, none⟩) L.length cap, .func (.func 36) #[] #[.pointer (some ⟨B, 0, none⟩)]] w fun e w' => e = .returned (.int .i64 z) ∧ Below w.heap.size w w' := by
  have HZ := Lib.hid hzh
  have HZN := Lib.hid hzn
  clear hzh hzn
  have HR := Lib.hid h
  have HN := Lib.hid hN
  clear h hN
  go_enter Try.func42, Try.ntmps42
  go_wp2_with fail
  go_loopw [5, 8] (fun _ i wr => ∃ k : Nat, k ≤ L.length ∧ i = .int .i64 k ∧ Hid (k ≤ z) ∧ Hid (Below w.heap.size w wr)) (fun _ i _ => L.length - (intOf i).toNat)
  case atStart => exact ⟨0, Nat.zero_le _, rfl, by simp [Hid], Below.refl _ _⟩
  case round =>
    obtain ⟨k, hk, rfl, hkz, HB⟩ := hrel
    have hsz := HB.out.size
    by_cases hlt : k < L.length
    · obtain ⟨c0, c1, c2, c3⟩ := (HR.out.grow HB.out).2 k hlt
      obtain ⟨f, t, ao, cap, bs, sp, hq⟩ : ∃ f t ao cap bs sp, (⟨f, t, ao, cap, bs, sp⟩ : Ms) = L[k] := ⟨_, _, _, _, _, _, rfl⟩
      rw [← hq] at c0 c1 c2 c3
      simp only at c0 c1 c2 c3
      have Hq := Lib.hid hq
      clear hq
      by_cases hkk : k = z
      · have Hkk := Lib.hid hkk
        clear hkk
        go_wp2_with fail
        refine (drop1_any B no nc l ⟨f, t, ao, cap, bs, sp⟩ _ (HN.out _ HB.out).1 hm (HN.out _ HB.out).2 true (by rw [Hq.out]; have := HZ.out; simp only [Hkk.out]; exact this)).mono ?_
        rintro e w1 ⟨rfl, hb⟩
        go_wp2_with fail
        go_ret
        exact ⟨by rw [← Hkk.out]; rfl, HB.out.trans (hb.mono hsz)⟩
      · have hkz2 : k + 1 ≤ z := by have := hkz.out; omega
        have Hkz2 := Lib.hid hkz2
        clear hkk hkz2
        go_wp2_with fail
        refine (drop1_any B no nc l ⟨f, t, ao, cap, bs, sp⟩ _ (HN.out _ HB.out).1 hm (HN.out _ HB.out).2 false (by rw [Hq.out]; exact HZN.out k hlt Hkz2.out)).mono ?_
        rintro e w1 ⟨rfl, hb⟩
        go_wp2_with fail
        go_roundw
        case rel => exact ⟨k + 1, by omega, by go_num, Hkz2, Lib.hid (HB.out.trans (hb.mono hsz))⟩
        case measure => simp [intOf]; omega
    · exfalso
      have := hkz.out
      omega
theorem indexFunc_no (g cap : Nat) (L : List Ms) (B : Nat) (no : Option Addr) (nc : Nat) (l : List Int) (w : World) (h : RowAt w g L) (hN : ∀ w', Below w.heap.size w w' → IntsAt w' no l ∧ w'.cell? ⟨B, 0, none⟩ = some (.slice no l.length nc)) (hm : l.length ≤ 9223372036854775807) (hL : L.length ≤ 1024)
    (hzn : ∀ j, (hj : j < L.length) → hits l L[j] = false) :
    Calls Try.prog 42 #[.slice (some ⟨g, 0, none⟩) L.length cap, .func (.func 36) #[] #[.pointer (some ⟨B, 0, none⟩)]] w fun e w' => e = .returned (.int .i64 (-1)) ∧ Below w.heap.size w w' := by
  have HZN := Lib.hid hzn
  clear hzn
  have HR := Lib.hid h
  have HN := Lib.hid hN
  clear h hN
  go_enter Try.func42, Try.ntmps42
  go_wp2_with fail
  go_loopw [5, 8] (fun _ i wr => ∃ k : Nat, k ≤ L.length ∧ i = .int .i64 k ∧ Hid True ∧ Hid (Below w.heap.size w wr)) (fun _ i _ => L.length - (intOf i).toNat)
  case atStart => exact ⟨0, Nat.zero_le _, rfl, by simp [Hid], Below.refl _ _⟩
  case round =>
    obtain ⟨k, hk, rfl, hkz, HB⟩ := hrel
    have hsz := HB.out.size
    by_cases hlt : k < L.length
    · obtain ⟨c0, c1, c2, c3⟩ := (HR.out.grow HB.out).2 k hlt
      obtain ⟨f, t, ao, cap, bs, sp, hq⟩ : ∃ f t ao cap bs sp, (⟨f, t, ao, cap, bs, sp⟩ : Ms) = L[k] := ⟨_, _, _, _, _, _, rfl⟩
      rw [← hq] at c0 c1 c2 c3
      simp only at c0 c1 c2 c3
      have Hq := Lib.hid hq
      clear hq
      go_wp2_with fail
      refine (drop1_any B no nc l ⟨f, t, ao, cap, bs, sp⟩ _ (HN.out _ HB.out).1 hm (HN.out _ HB.out).2 false (by rw [Hq.out]; exact HZN.out k hlt)).mono ?_
      rintro e w1 ⟨rfl, hb⟩
      go_wp2_with fail
      go_roundw
      case rel => exact ⟨k + 1, by omega, by go_num, trivial, Lib.hid (HB.out.trans (hb.mono hsz))⟩
      case measure => simp [intOf]; omega
    · go_wp2_with fail
      go_ret
      exact ⟨rfl, HB.out⟩
end Go.Proofs.Ytcboflabjdiadaa
