/- The contract of the Writer's Nums. -/
import Derived.Test.YtbkagefapmnojaaWr
namespace Go.Proofs.Ytbkagefapmnojaa
open Go.RowKit

/-- The ints lie from b, off on. -/
def IRow (w : World) (b off : Nat) (l : List Int) : Prop := ∀ i, (h : i < l.length) → w.cell? ⟨b, off + i, none⟩ = some (.int .i64 l[i])
theorem bits_low (u : Nat) : UInt8.toNat (UInt8.ofNat u) = u % 256 := by simp

theorem bits_more_all : ∀ m : Fin 256, bits BinOp.or IntKind.u8 ((m.val : Nat) : Int) 128 = ((m.val % 128 + 128 : Nat) : Int) := by decide +kernel
theorem bits_more (q : Nat) : bits BinOp.or IntKind.u8 ((q : Int) % 256) 128 = ((UInt8.ofNat (q % 128 + 128)).toNat : Int) := by
  have h := bits_more_all ⟨q % 256, by omega⟩
  simp only at h
  rw [show ((q % 256 : Nat) : Int) = (q : Int) % 256 from by omega] at h
  rw [h]
  simp
  omega
theorem byte_low (q : Nat) : (q : Int) % 256 = ((UInt8.ofNat q).toNat : Int) := by simp
set_option maxHeartbeats 4000000 in
theorem nums_some (p base : Nat) (l : List UInt8) (o : Option Nat) (b off cv : Nat) (vs : List Int) (w : World) (hw : WrAt w p base l o) (hr : IRow w b off vs) (hb : b < w.heap.size) (hbp : b ≠ p) (hbo : o ≠ some b) (hbase : base ≤ w.heap.size) (hm : l.length + 10 * vs.length ≤ 140737488351232) :
    Calls Try.prog 32 #[.pointer (some ⟨p, 0, none⟩), .slice (some ⟨b, off, none⟩) vs.length cv] w fun e w' => e = .returned (.tuple #[]) ∧ WInv w w' p base o (l ++ encs vs) [] := by
  have Hw := Lib.hid hw
  have Hr := Lib.hid hr
  have Hbo := Lib.hid hbo
  clear hw hr hbo
  obtain ⟨i0, hi, hz0, hz1, hz2⟩ := info_parts byteInfo
  go_enter Try.func32, Try.ntmps32
  go_wp2_with fail
  go_loopw [11] (fun i wr => ∃ k : Nat, k ≤ vs.length ∧ i = .int .i64 k ∧ Hid (WInv w wr p base o (l ++ encs (vs.take k)) [])) (fun i _ => vs.length - (intOf i).toNat)
  case atStart => exact ⟨0, Nat.zero_le _, rfl, (by have := WInv.start (rest := []) Hw.out; simpa [encs, Hid] using this)⟩
  case round =>
    obtain ⟨k, hk, rfl, hst⟩ := hrel
    obtain ⟨wo, rfl⟩ : ∃ wo : World, wo = wr := ⟨_, rfl⟩
    by_cases hlt : k < vs.length
    · have hcv : wo.cell? ⟨b, off + k, none⟩ = some (.int .i64 vs[k]) := by
        obtain ⟨-, -, -, -, hkp, -⟩ := hst.out
        exact (hkp.cell (p := ⟨b, _, none⟩) hb (fun h => h.elim hbp (fun h => Hbo.out h))).trans (Hr.out k hlt)
      obtain ⟨v, hv⟩ : ∃ v, v = vs[k] := ⟨_, rfl⟩
      rw [← hv] at hcv
      have Hv := Lib.hid hv
      clear hv
      obtain ⟨u, hu⟩ : ∃ u, u = clampN v := ⟨_, rfl⟩
      have hmm := clampN_eq v
      have hule := clampN_le v
      rw [← hu] at hmm hule
      have Hu := Lib.hid hu
      clear hu
      go_wp2_with fail
      go_loopw [6] (fun s6 wr => ∃ q : Nat, s6 = .int .u64 q ∧ q ≤ 4611686018427387904 ∧ Hid (WInv w wr p base o (l ++ encs (vs.take k) ++ encN u) (encN q))) (fun s6 _ => (intOf s6).toNat)
      case atStart => exact ⟨u, rfl, hule, by have := hst.out.more (more := encN u); simpa [Hid] using this⟩
      case round =>
        obtain ⟨q, rfl, hq62, hsi⟩ := hrel
        obtain ⟨cur, o1, ⟨ao, cap, hheap, hown, ho1, hne⟩, hfull, hkp, hfr⟩ := hsi.out
        have hcell := cell_of_one hheap
        have hfree := free_of_one hheap
        have hlen : cur.length + 1 ≤ 140737488351232 := by
          have h1 := congrArg List.length hfull
          have h2 := encs_length (vs.take k)
          have h3 := (encN_length u).1
          have h4 := (encN_length q).2
          have h5 : (vs.take k).length ≤ k := List.length_take_le _ _
          simp only [List.length_append] at h1
          omega
        have Hheap := Lib.hid hheap
        have Hown := Lib.hid hown
        have Ho1 := Lib.hid ho1
        have Hne := Lib.hid hne
        have Hfull := Lib.hid hfull
        have Hfr := Lib.hid hfr
        have Hkp := Lib.hid hkp
        clear hheap hown ho1 hne hfull hfr hkp
        by_cases hq : (128 : Int) ≤ q
        · obtain ⟨c, hc⟩ : ∃ c : UInt8, c = UInt8.ofNat (q % 128 + 128) := ⟨_, rfl⟩
          have hbits := bits_more q
          rw [← hc] at hbits
          have Hc := Lib.hid hc
          clear hc
          go_wp2_with (at_builtin; go_must (refine wpList_append_foot _ rfl (.tmp 27) (.tmp 31) 35 rfl base 5 i0 (.int .u8 0) 1 1 Try.underlying35 hi hz0 hz1 hz2 rfl (by decide) ao cur.length cap (bytV cur) rfl (Hown.out.alloc _) (some ⟨wr.heap.size, 0, none⟩) 1 1 (bytV [c]) rfl (fun h => by cases h) rfl (one_cell _ _ _ _ rfl) (bytV_one [c]) (by unfold maxLen; omega) (by omega) (by have := Hkp.out.size; simp; omega) ?_))
          intro co c' w1 hown1 hgrow1 hco1
          have hstep := WInv.step (full := l ++ encs (vs.take k) ++ encN u) (news := [c]) (rest := encN (q / 128)) Hheap.out (by rw [← Ho1.out]; exact Hne.out) (by rw [← Hfull.out, encN_big (n := q) (by omega) hq62, ← Hc.out]; rfl) Hkp.out (by rw [← Ho1.out]; exact Hfr.out) (Keeps.of_grown ((Below.refl _ _).alloc (Nat.le_refl _) _) (Nat.le_refl _) _) hown1 hgrow1 (by simpa using hco1)
          obtain ⟨hinv, hc1, hf1⟩ := hstep
          have Hinv := Lib.hid hinv
          clear hown1 hgrow1 hco1 hinv hcell hfree
          go_wp2_with fail
          go_roundw
          case rel => exact ⟨q / 128, rfl, by omega, Hinv.out⟩
          case measure => simp [intOf]; omega
        · obtain ⟨c, hc⟩ : ∃ c : UInt8, c = UInt8.ofNat q := ⟨_, rfl⟩
          have hcq : (q : Int) = (c.toNat : Int) := by rw [hc]; simp; omega
          have Hc := Lib.hid hc
          have Hcq := Lib.hid hcq
          clear hc hcq
          go_wp2_with (at_builtin; go_must (refine wpList_append_foot _ rfl (.tmp 39) (.tmp 42) 35 rfl base 5 i0 (.int .u8 0) 1 1 Try.underlying35 hi hz0 hz1 hz2 rfl (by decide) ao cur.length cap (bytV cur) rfl (Hown.out.alloc _) (some ⟨wr.heap.size, 0, none⟩) 1 1 (bytV [c]) rfl (fun h => by cases h) rfl (one_cell _ _ _ _ Hcq.out) (bytV_one [c]) (by unfold maxLen; omega) (by omega) (by have := Hkp.out.size; simp; omega) ?_))
          intro co c' w1 hown1 hgrow1 hco1
          have hstep := WInv.step (full := l ++ encs (vs.take k) ++ encN u) (news := [c]) (rest := []) Hheap.out (by rw [← Ho1.out]; exact Hne.out) (by rw [← Hfull.out, encN_small (n := q) (by omega), ← Hc.out]; rfl) Hkp.out (by rw [← Ho1.out]; exact Hfr.out) (Keeps.of_grown ((Below.refl _ _).alloc (Nat.le_refl _) _) (Nat.le_refl _) _) hown1 hgrow1 (by simpa using hco1)
          obtain ⟨hinv, hc1, hf1⟩ := hstep
          have Hinv := Lib.hid hinv
          clear hown1 hgrow1 hco1 hinv hcell hfree
          go_wp2_with fail
          go_roundw
          case rel => exact ⟨k + 1, by omega, by go_num, by have := Hinv.out; rw [Hu.out, Hv.out, List.append_assoc, ← encs_snoc vs k hlt] at this; exact this⟩
          case measure => simp [intOf]; omega
    · go_wp2_with fail
      go_end0
      exact ⟨rfl, by have := hst.out; rwa [List.take_of_length_le (by omega)] at this⟩
end Go.Proofs.Ytbkagefapmnojaa
