/- Texts put together: Num, Wr, Nums, Raw, Rws, WrRows, Known, Rd, RdRaw, Take, RdNum, RdBytes, Ref, BackNum, Obj, RdNums, BackRd, WrSt, RefRd, RefRdNum, RefRdBytes, TakesObj, RdSt, Sm, RdOld, Str. -/
import Derived.Test.YtobnibdeimiinaaBs
import Derived.Test.YtobnibdeimiinaaOpenB
import GoSem.Op.String
import Derived.Lib.MinMax
import Derived.Lib.SmallJoins
import Derived.Laws.Bits64b
import Derived.Laws.Entries
import Derived.Laws.BytesArg
import Derived.Deep.DrawnRows
import Derived.Deep.RegionLaw
import Derived.Shelf.Bytes.SlSmallAll
import Derived.Lib.ConvBytes

/- Numbers as bytes, in plain Lean. -/
namespace Go.Proofs.Ytobnibdeimiinaa

def encF : Nat → Nat → List UInt8
  | 0, n => [UInt8.ofNat n]
  | f + 1, n => if n < 128 then [UInt8.ofNat n] else UInt8.ofNat (n % 128 + 128) :: encF f (n / 128)
def encN (n : Nat) : List UInt8 := encF 9 n
def clampN (v : Int) : Nat := (max 0 (min v 4611686018427387904)).toNat
theorem clampN_le (v : Int) : clampN v ≤ 4611686018427387904 := by unfold clampN; omega
theorem clampN_eq (v : Int) : max 0 (min v 4611686018427387904) = (clampN v : Int) := by unfold clampN; omega
def encs (vs : List Int) : List UInt8 := vs.flatMap fun v => encN (clampN v)
theorem encF_same : ∀ (f g n : Nat), n < 128 ^ (f + 1) → n < 128 ^ (g + 1) → encF f n = encF g n
  | 0, 0, _, _, _ => rfl
  | 0, g + 1, n, h, _ => by have h : n < 128 := by simpa using h
                            simp [encF, h]
  | f + 1, 0, n, _, h => by have h : n < 128 := by simpa using h
                            simp [encF, h]
  | f + 1, g + 1, n, h, k => by
    simp only [encF]
    split
    · rfl
    · rw [encF_same f g (n / 128) (by rw [Nat.div_lt_iff_lt_mul (by omega)]; rwa [Nat.pow_succ] at h) (by rw [Nat.div_lt_iff_lt_mul (by omega)]; rwa [Nat.pow_succ] at k)]
theorem encN_small {n : Nat} (h : n < 128) : encN n = [UInt8.ofNat n] := by simp [encN, encF, h]
theorem encN_big {n : Nat} (h : ¬ n < 128) (hn : n ≤ 4611686018427387904) : encN n = UInt8.ofNat (n % 128 + 128) :: encN (n / 128) := by
  unfold encN
  rw [show encF 9 n = UInt8.ofNat (n % 128 + 128) :: encF 8 (n / 128) from by simp [encF, h]]
  rw [encF_same 8 9 (n / 128) (by have : (128 : Nat) ^ (8 + 1) = 9223372036854775808 := by decide
                                  omega) (by have : (128 : Nat) ^ (9 + 1) = 1180591620717411303424 := by decide
                                             omega)]
theorem encF_length : ∀ (f n : Nat), (encF f n).length ≤ f + 1 ∧ 0 < (encF f n).length
  | 0, _ => by simp [encF]
  | f + 1, n => by
    simp only [encF]
    split
    · simp
    · have := encF_length f (n / 128); simp; omega
theorem encN_length (n : Nat) : (encN n).length ≤ 10 ∧ 0 < (encN n).length := encF_length 9 n
theorem encs_length (vs : List Int) : (encs vs).length ≤ 10 * vs.length := by
  induction vs with
  | nil => simp [encs]
  | cons v r ih =>
    have := (encN_length (clampN v)).1
    simp only [encs, List.flatMap_cons, List.length_append, List.length_cons] at *
    omega
theorem encs_snoc (vs : List Int) (k : Nat) (h : k < vs.length) : encs (vs.take (k + 1)) = encs (vs.take k) ++ encN (clampN vs[k]) := by
  rw [List.take_succ_eq_append_getElem h]; simp only [encs, List.flatMap_append, List.flatMap_cons, List.flatMap_nil, List.append_nil]
end Go.Proofs.Ytobnibdeimiinaa

/- The Writer: what it is in memory; contracts of its methods. -/
namespace Go.Proofs.Ytobnibdeimiinaa
open Go.RowKit
set_option maxRecDepth 20000

/-- A Writer: the block p holds one slice, which the call made; o: the slice's block. -/
def WrAt (w : World) (p base : Nat) (l : List UInt8) (o : Option Nat) : Prop := ∃ ao cap, w.heap[p]? = some (.cells #[.slice ao l.length cap] 91 (0, 0)) ∧ OwnB w base ao cap l ∧ o = (Value.slice ao l.length cap).ownBlock ∧ o ≠ some p
/-- The blocks that a Writer's method may write. -/
def Foot (p : Nat) (o : Option Nat) : Nat → Prop := fun x => x = p ∨ o = some x
/-- Under way: what is laid and what is still to be laid is 'full'; since w only the Writer was written. -/
def WInv (w wr : World) (p base : Nat) (o : Option Nat) (full rest : List UInt8) : Prop := ∃ cur o', WrAt wr p base cur o' ∧ cur ++ rest = full ∧ Keeps w wr (Foot p o) ∧ (∀ g, o' = some g → o = some g ∨ w.heap.size ≤ g)
theorem own_of {ao : Option Addr} {n c : Nat} : (Value.slice ao n c).ownBlock = ao.map (·.block) := by cases ao <;> rfl
theorem WrAt.lt {w : World} {p base : Nat} {l : List UInt8} {o : Option Nat} (h : WrAt w p base l o) : p < w.heap.size := by
  obtain ⟨ao, cap, h1, -⟩ := h
  exact lt_of_block h1
theorem WrAt.own_lt {w : World} {p base : Nat} {l : List UInt8} {o : Option Nat} (h : WrAt w p base l o) : ∀ g, o = some g → g < w.heap.size ∧ base ≤ g := by
  obtain ⟨ao, cap, -, h2, h3, -⟩ := h
  intro g hg
  rw [h3] at hg
  rcases h2.2 with ⟨hv, -⟩ | ⟨g', c, cur, hv, hb, hh, -⟩
  · rw [hv] at hg; simp [Value.ownBlock] at hg
  · rw [hv] at hg
    simp only [Value.ownBlock, Option.some.injEq] at hg
    subst hg
    exact ⟨lt_of_block hh, hb⟩
theorem WInv.start {w : World} {p base : Nat} {o : Option Nat} {l rest : List UInt8} (h : WrAt w p base l o) : WInv w w p base o (l ++ rest) rest := ⟨l, o, h, rfl, Keeps.refl _ _, fun _ hg => .inl hg⟩
theorem WInv.more {w wr : World} {p base : Nat} {o : Option Nat} {full rest more : List UInt8} (h : WInv w wr p base o full rest) : WInv w wr p base o (full ++ more) (rest ++ more) := by
  obtain ⟨cur, o', h1, h2, h3⟩ := h
  exact ⟨cur, o', h1, by rw [← List.append_assoc, h2], h3⟩
/-- One append and the store behind it. -/
theorem WInv.step {w wr wx w1 : World} {p base : Nat} {o : Option Nat} {cur news rest full : List UInt8} {ao co : Option Addr} {cap c' : Nat}
    (hp : wr.heap[p]? = some (.cells #[.slice ao cur.length cap] 91 (0, 0))) (hne : (Value.slice ao cur.length cap).ownBlock ≠ some p) (hfull : cur ++ (news ++ rest) = full) (hk : Keeps w wr (Foot p o))
    (ho : ∀ g, (Value.slice ao cur.length cap).ownBlock = some g → o = some g ∨ w.heap.size ≤ g) (hx : Keeps wr wx (fun _ => False))
    (hown : w1.ownsRow base 5 1 (.slice co (cur.length + news.length) c') (cur.length + news.length) (bytV cur ++ bytV news)) (hg : wx.grownBy w1 (Value.slice ao cur.length cap).ownBlock)
    (hco : ∀ g, co = some g → ao = some g ∨ wx.heap.size ≤ g.block) :
    WInv w (w1.setCell ⟨p, 0, none⟩ (.slice co (cur.length + news.length) c')) p base o full rest ∧ w1.cell? ⟨p, 0, none⟩ = some (.slice ao cur.length cap) ∧ w1.frozen? ⟨p, 0, none⟩ = false := by
  have hlt := lt_of_block hp
  have hpx : wx.heap[p]? = some (.cells #[.slice ao cur.length cap] 91 (0, 0)) := (hx.block p hlt (fun h => h)).trans hp
  have hp1 : w1.heap[p]? = some (.cells #[.slice ao cur.length cap] 91 (0, 0)) := (hg.block p (lt_of_block hpx) (fun h => hne h.symm)).trans hpx
  refine ⟨?_, cell_of_one hp1, free_of_one hp1⟩
  have hcne : (Value.slice co (cur.length + news.length) c').ownBlock ≠ some p := by
    intro h
    cases co with
    | none => simp [Value.ownBlock] at h
    | some g =>
      simp only [Value.ownBlock, Option.some.injEq] at h
      rcases hco g rfl with h1 | h1
      · subst h1; exact hne (by simp [Value.ownBlock, h])
      · have := hx.size; omega
  have hs := hx.size
  have hs1 := hg.size
  refine ⟨cur ++ news, (Value.slice co (cur.length + news.length) c').ownBlock, ⟨co, c', ?_, ?_, ?_, hcne⟩, by rw [List.append_assoc]; exact hfull, ?_, ?_⟩
  · rw [List.length_append]; exact one_setCell hp1
  · unfold OwnB
    rw [List.length_append, ← bytV_append]
    exact ownsRow_setCell_other hown hcne _
  · rw [List.length_append]
  · refine ⟨hg.os.trans (hx.os.trans hk.os), hg.tape.trans (hx.tape.trans hk.tape), hg.output.trans (hx.output.trans hk.output), by have := hk.size; simp [World.setCell]; omega, fun k hk1 hn => ?_⟩
    have hk2 := hk.size
    rw [Below.heap_setCell _ _ _ _ (fun e => hn (.inl e))]
    rw [hg.block k (by omega) (fun e => ?_), hx.block k (by omega) (fun h => h), hk.block k hk1 hn]
    rcases ho k e.symm with h | h
    · exact hn (.inr h)
    · omega
  · intro g hgg
    cases co with
    | none => simp [Value.ownBlock] at hgg
    | some a =>
      simp only [Value.ownBlock, Option.some.injEq] at hgg
      rcases hco a rfl with h | h
      · exact ho g (by rw [h]; simp [Value.ownBlock, hgg])
      · right; have := hk.size; omega
end Go.Proofs.Ytobnibdeimiinaa

/- The contract of the Writer's Nums. -/
namespace Go.Proofs.Ytobnibdeimiinaa
open Go.RowKit
set_option maxRecDepth 20000

/-- The ints lie from b, off on. -/
def IRow (w : World) (b off : Nat) (l : List Int) : Prop := ∀ i, (h : i < l.length) → w.cell? ⟨b, off + i, none⟩ = some (.int .i64 l[i])
theorem bits_low (u : Nat) : UInt8.toNat (UInt8.ofNat u) = u % 256 := by simp

theorem bits_more_all : ∀ m : Fin 256, bits BinOp.or IntKind.u8 ((m.val : Nat) : Int) 128 = ((m.val % 128 + 128 : Nat) : Int) := by decide +kernel
theorem bits_more (q : Nat) : bits BinOp.or IntKind.u8 ((q : Int) % 256) 128 = ((UInt8.ofNat (q % 128 + 128)).toNat : Int) := by
  have h := bits_more_all ⟨q % 256, by omega⟩
  simp only at h
  rw [show ((q % 256 : Nat) : Int) = (q : Int) % 256 from by omega] at h
  rw [h]
  simp
  omega
theorem byte_low (q : Nat) : (q : Int) % 256 = ((UInt8.ofNat q).toNat : Int) := by simp
set_option maxHeartbeats 4000000 in
theorem nums_some (p base : Nat) (l : List UInt8) (o : Option Nat) (b off cv : Nat) (vs : List Int) (w : World) (hw : WrAt w p base l o) (hr : IRow w b off vs) (hb : b < w.heap.size) (hbp : b ≠ p) (hbo : o ≠ some b) (hbase : base ≤ w.heap.size) (hm : l.length + 10 * vs.length ≤ 140737488351232) :
    Calls Try.prog 54 #[.pointer (some ⟨p, 0, none⟩), .slice (some ⟨b, off, none⟩) vs.length cv] w fun e w' => e = .returned (.tuple #[]) ∧ WInv w w' p base o (l ++ encs vs) [] := by
  have Hw := Lib.hid hw
  have Hr := Lib.hid hr
  have Hbo := Lib.hid hbo
  clear hw hr hbo
  obtain ⟨i0, hi, hz0, hz1, hz2⟩ := info_parts byteInfo
  go_enter Try.func54, Try.ntmps54
  go_wp2_with fail
  go_loopw [11] (fun i wr => ∃ k : Nat, k ≤ vs.length ∧ i = .int .i64 k ∧ Hid (WInv w wr p base o (l ++ encs (vs.take k)) [])) (fun i _ => vs.length - (intOf i).toNat)
  case atStart => exact ⟨0, Nat.zero_le _, rfl, (by have := WInv.start (rest := []) Hw.out; simpa [encs, Hid] using this)⟩
  case round =>
    obtain ⟨k, hk, rfl, hst⟩ := hrel
    obtain ⟨wo, rfl⟩ : ∃ wo : World, wo = wr := ⟨_, rfl⟩
    by_cases hlt : k < vs.length
    · have hcv : wo.cell? ⟨b, off + k, none⟩ = some (.int .i64 vs[k]) := by
        obtain ⟨-, -, -, -, hkp, -⟩ := hst.out
        exact (hkp.cell (p := ⟨b, _, none⟩) hb (fun h => h.elim hbp (fun h => Hbo.out h))).trans (Hr.out k hlt)
      obtain ⟨v, hv⟩ : ∃ v, v = vs[k] := ⟨_, rfl⟩
      rw [← hv] at hcv
      have Hv := Lib.hid hv
      clear hv
      obtain ⟨u, hu⟩ : ∃ u, u = clampN v := ⟨_, rfl⟩
      have hmm := clampN_eq v
      have hule := clampN_le v
      rw [← hu] at hmm hule
      have Hu := Lib.hid hu
      clear hu
      go_wp2_with fail
      go_loopw [6] (fun s6 wr => ∃ q : Nat, s6 = .int .u64 q ∧ q ≤ 4611686018427387904 ∧ Hid (WInv w wr p base o (l ++ encs (vs.take k) ++ encN u) (encN q))) (fun s6 _ => (intOf s6).toNat)
      case atStart => exact ⟨u, rfl, hule, by have := hst.out.more (more := encN u); simpa [Hid] using this⟩
      case round =>
        obtain ⟨q, rfl, hq62, hsi⟩ := hrel
        obtain ⟨cur, o1, ⟨ao, cap, hheap, hown, ho1, hne⟩, hfull, hkp, hfr⟩ := hsi.out
        have hcell := cell_of_one hheap
        have hfree := free_of_one hheap
        have hlen : cur.length + 1 ≤ 140737488351232 := by
          have h1 := congrArg List.length hfull
          have h2 := encs_length (vs.take k)
          have h3 := (encN_length u).1
          have h4 := (encN_length q).2
          have h5 : (vs.take k).length ≤ k := List.length_take_le _ _
          simp only [List.length_append] at h1
          omega
        have Hheap := Lib.hid hheap
        have Hown := Lib.hid hown
        have Ho1 := Lib.hid ho1
        have Hne := Lib.hid hne
        have Hfull := Lib.hid hfull
        have Hfr := Lib.hid hfr
        have Hkp := Lib.hid hkp
        clear hheap hown ho1 hne hfull hfr hkp
        by_cases hq : (128 : Int) ≤ q
        · obtain ⟨c, hc⟩ : ∃ c : UInt8, c = UInt8.ofNat (q % 128 + 128) := ⟨_, rfl⟩
          have hbits := bits_more q
          rw [← hc] at hbits
          have Hc := Lib.hid hc
          clear hc
          go_wp2_with (at_builtin; go_must (refine wpList_append_foot _ rfl (.tmp 27) (.tmp 31) 58 rfl base 5 i0 (.int .u8 0) 1 1 Try.underlying58 hi hz0 hz1 hz2 rfl (by decide) ao cur.length cap (bytV cur) rfl (Hown.out.alloc _) (some ⟨wr.heap.size, 0, none⟩) 1 1 (bytV [c]) rfl (fun h => by cases h) rfl (one_cell _ _ _ _ rfl) (bytV_one [c]) (by unfold maxLen; omega) (by omega) (by have := Hkp.out.size; simp; omega) ?_))
          intro co c' w1 hown1 hgrow1 hco1
          have hstep := WInv.step (full := l ++ encs (vs.take k) ++ encN u) (news := [c]) (rest := encN (q / 128)) Hheap.out (by rw [← Ho1.out]; exact Hne.out) (by rw [← Hfull.out, encN_big (n := q) (by omega) hq62, ← Hc.out]; rfl) Hkp.out (by rw [← Ho1.out]; exact Hfr.out) (Keeps.of_grown ((Below.refl _ _).alloc (Nat.le_refl _) _) (Nat.le_refl _) _) hown1 hgrow1 (by simpa using hco1)
          obtain ⟨hinv, hc1, hf1⟩ := hstep
          have Hinv := Lib.hid hinv
          clear hown1 hgrow1 hco1 hinv hcell hfree
          go_wp2_with fail
          go_roundw
          case rel => exact ⟨q / 128, rfl, by omega, Hinv.out⟩
          case measure => simp [intOf]; omega
        · obtain ⟨c, hc⟩ : ∃ c : UInt8, c = UInt8.ofNat q := ⟨_, rfl⟩
          have hcq : (q : Int) = (c.toNat : Int) := by rw [hc]; simp; omega
          have Hc := Lib.hid hc
          have Hcq := Lib.hid hcq
          clear hc hcq
          go_wp2_with (at_builtin; go_must (refine wpList_append_foot _ rfl (.tmp 39) (.tmp 42) 58 rfl base 5 i0 (.int .u8 0) 1 1 Try.underlying58 hi hz0 hz1 hz2 rfl (by decide) ao cur.length cap (bytV cur) rfl (Hown.out.alloc _) (some ⟨wr.heap.size, 0, none⟩) 1 1 (bytV [c]) rfl (fun h => by cases h) rfl (one_cell _ _ _ _ Hcq.out) (bytV_one [c]) (by unfold maxLen; omega) (by omega) (by have := Hkp.out.size; simp; omega) ?_))
          intro co c' w1 hown1 hgrow1 hco1
          have hstep := WInv.step (full := l ++ encs (vs.take k) ++ encN u) (news := [c]) (rest := []) Hheap.out (by rw [← Ho1.out]; exact Hne.out) (by rw [← Hfull.out, encN_small (n := q) (by omega), ← Hc.out]; rfl) Hkp.out (by rw [← Ho1.out]; exact Hfr.out) (Keeps.of_grown ((Below.refl _ _).alloc (Nat.le_refl _) _) (Nat.le_refl _) _) hown1 hgrow1 (by simpa using hco1)
          obtain ⟨hinv, hc1, hf1⟩ := hstep
          have Hinv := Lib.hid hinv
          clear hown1 hgrow1 hco1 hinv hcell hfree
          go_wp2_with fail
          go_roundw
          case rel => exact ⟨k + 1, by omega, by go_num, by have := Hinv.out; rw [Hu.out, Hv.out, List.append_assoc, ← encs_snoc vs k hlt] at this; exact this⟩
          case measure => simp [intOf]; omega
    · go_wp2_with fail
      go_end0
      exact ⟨rfl, by have := hst.out; rwa [List.take_of_length_le (by omega)] at this⟩
end Go.Proofs.Ytobnibdeimiinaa

/- Contracts of the Writer's Raw, Bytes and Out. -/
namespace Go.Proofs.Ytobnibdeimiinaa
open Go.RowKit
set_option maxRecDepth 20000

theorem WrAt.open {w : World} {p base : Nat} {l : List UInt8} {o : Option Nat} (h : WrAt w p base l o) : ∃ ao cap, w.heap[p]? = some (.cells #[.slice ao l.length cap] 91 (0, 0)) ∧ OwnB w base ao cap l ∧ o = (Value.slice ao l.length cap).ownBlock ∧ (Value.slice ao l.length cap).ownBlock ≠ some p := by
  obtain ⟨ao, cap, h1, h2, h3, h4⟩ := h
  exact ⟨ao, cap, h1, h2, h3, h3 ▸ h4⟩

set_option maxHeartbeats 4000000 in
theorem raw_any (p base : Nat) (l : List UInt8) (o : Option Nat) (bo : Option Addr) (cb : Nat) (bs : List UInt8) (w : World) (hw : WrAt w p base l o) (h0 : bo = none → bs.length = 0 ∧ cb = 0) (hb : BAt w bo bs) (hbase : base ≤ w.heap.size) (hm : l.length + bs.length ≤ 140737488351232) :
    Calls Try.prog 92 #[.pointer (some ⟨p, 0, none⟩), .slice bo bs.length cb] w fun e w' => e = .returned (.tuple #[]) ∧ WInv w w' p base o (l ++ bs) [] := by
  obtain ⟨ao, cap, hheap, hown, ho1, hne⟩ := hw.open
  have hcell := cell_of_one hheap
  have hfree := free_of_one hheap
  have Hheap := Lib.hid hheap
  have Hown := Lib.hid hown
  have Ho1 := Lib.hid ho1
  have Hne := Lib.hid hne
  have Hb := Lib.hid hb
  have H0 := Lib.hid h0
  clear hheap hown ho1 hne hw hb h0
  obtain ⟨i0, hi, hz0, hz1, hz2⟩ := info_parts byteInfo
  go_enter Try.func92, Try.ntmps92
  go_wp2_with (at_builtin; go_must (refine wpList_append_foot _ rfl (.tmp 10) (.tmp 11) 58 rfl base 5 i0 (.int .u8 0) 1 1 Try.underlying58 hi hz0 hz1 hz2 rfl (by decide) ao l.length cap (bytV l) rfl Hown.out bo bs.length cb (bytV bs) rfl H0.out (by rw [bytV_length, Nat.mul_one]) Hb.out.cells (bytV_one bs) (by unfold maxLen; omega) (by omega) hbase ?_))
  intro co c' w1 hown1 hgrow1 hco1
  have hstep := WInv.step (full := l ++ bs) (o := o) (news := bs) (rest := []) Hheap.out Hne.out (by simp) (Keeps.refl w _) (by rw [← Ho1.out]; exact fun g hg => .inl hg) (Keeps.refl w _) hown1 hgrow1 hco1
  obtain ⟨hinv, hc1, hf1⟩ := hstep
  have Hinv := Lib.hid hinv
  clear hown1 hgrow1 hco1 hinv hcell hfree
  go_wp2_with fail
  go_end0
  exact ⟨rfl, Hinv.out⟩

theorem out_any (p base : Nat) (l : List UInt8) (o : Option Nat) (w : World) (hw : WrAt w p base l o) (hm : l.length ≤ 140737488351232) :
    Calls Try.prog 56 #[.pointer (some ⟨p, 0, none⟩)] w (FreshB w l) := by
  obtain ⟨ao, cap, hheap, hown, ho1, hne⟩ := hw.open
  have hcell := cell_of_one hheap
  have Hown := Lib.hid hown
  clear hheap hown ho1 hne hw
  go_enter Try.func56, Try.ntmps56
  go_wp2_with fail
  refine (clone_any ao cap l _ Hown.out.none Hown.out.at hm).mono ?_
  rintro e w1 ⟨bo, c, rfl, ho, hb⟩
  go_wp2_with fail
  go_ret
  exact ⟨bo, c, rfl, ho, hb⟩
end Go.Proofs.Ytobnibdeimiinaa

/- Rows of bytes in memory: all their blocks lie in D. -/
namespace Go.Proofs.Ytobnibdeimiinaa
open Go.RowKit

structure RowR where
  ao : Option Addr
  cap : Nat
  bs : List UInt8
def BIn (w : World) (D : Nat → Prop) (ao : Option Addr) (l : List UInt8) : Prop := 0 < l.length → ∃ b off, ao = some ⟨b, off, none⟩ ∧ b < w.heap.size ∧ D b ∧ BRow w b off l
structure RAt (w : World) (D : Nat → Prop) (b o : Nat) (r : RowR) : Prop where
  c : w.cell? ⟨b, o, none⟩ = some (.slice r.ao r.bs.length r.cap)
  le : r.bs.length ≤ r.cap
  cm : r.cap ≤ 9223372036854775807
  n0 : r.ao = none → r.bs.length = 0 ∧ r.cap = 0
  at_ : BIn w D r.ao r.bs
/-- Rows of bytes lie behind a slice's address. -/
def RsAt (w : World) (D : Nat → Prop) (ao : Option Addr) (L : List RowR) : Prop := 0 < L.length → ∃ b off, ao = some ⟨b, off, none⟩ ∧ b < w.heap.size ∧ D b ∧ ∀ i, (hi : i < L.length) → RAt w D b (off + i) L[i]
def flatR (L : List RowR) : List UInt8 := L.flatMap (·.bs)
theorem BIn.at {w : World} {D : Nat → Prop} {ao : Option Addr} {l : List UInt8} (h : BIn w D ao l) : BAt w ao l := fun hp =>
  let ⟨b, off, e, hb, _, hr⟩ := h hp
  ⟨b, off, e, hb, hr⟩
theorem BIn.keeps {w w' : World} {D S : Nat → Prop} {ao : Option Addr} {l : List UInt8} (h : BIn w D ao l) (k : Keeps w w' S) (hD : ∀ x, D x → ¬ S x) : BIn w' D ao l := fun hp =>
  let ⟨b, off, e, hb, hd, hr⟩ := h hp
  ⟨b, off, e, Nat.lt_of_lt_of_le hb k.size, hd, hr.keeps hb k (hD b hd)⟩
theorem BIn.weak {w : World} {D E : Nat → Prop} {ao : Option Addr} {l : List UInt8} (h : BIn w D ao l) (hE : ∀ x, x < w.heap.size → D x → E x) : BIn w E ao l := fun hp =>
  let ⟨b, off, e, hb, hd, hr⟩ := h hp
  ⟨b, off, e, hb, hE b hb hd, hr⟩
theorem BAt.in {w : World} {ao : Option Addr} {l : List UInt8} (h : BAt w ao l) : BIn w (fun x => x < w.heap.size) ao l := fun hp =>
  let ⟨b, off, e, hb, hr⟩ := h hp
  ⟨b, off, e, hb, hb, hr⟩
theorem RAt.keeps {w w' : World} {D S : Nat → Prop} {b o : Nat} {r : RowR} (h : RAt w D b o r) (k : Keeps w w' S) (hD : ∀ x, D x → ¬ S x) (hb : b < w.heap.size) (hd : D b) : RAt w' D b o r :=
  ⟨(k.cell (p := ⟨b, o, none⟩) hb (hD b hd)).trans h.c, h.le, h.cm, h.n0, h.at_.keeps k hD⟩
theorem RsAt.keeps {w w' : World} {D S : Nat → Prop} {ao : Option Addr} {L : List RowR} (h : RsAt w D ao L) (k : Keeps w w' S) (hD : ∀ x, D x → ¬ S x) : RsAt w' D ao L := fun hp =>
  let ⟨b, off, e, hb, hd, hr⟩ := h hp
  ⟨b, off, e, Nat.lt_of_lt_of_le hb k.size, hd, fun i hi => (hr i hi).keeps k hD hb hd⟩
theorem keeps_same {w w' : World} (h : Below w.heap.size w w') (S : Nat → Prop) : Keeps w w' S := Keeps.of_grown h (Nat.le_refl _) S
theorem RsAt.grow {w w' : World} {D : Nat → Prop} {ao : Option Addr} {L : List RowR} (h : RsAt w D ao L) (b : Below w.heap.size w w') : RsAt w' D ao L := h.keeps (keeps_same b (fun _ => False)) (fun _ _ h => h)
theorem RsAt.below {w w' : World} {B : Nat} {ao : Option Addr} {L : List RowR} (h : RsAt w (fun x => x < B) ao L) (b : Below B w w') : RsAt w' (fun x => x < B) ao L := h.keeps (Keeps.of_below b) (fun x h1 h2 => by omega)
end Go.Proofs.Ytobnibdeimiinaa

/- The contract of the Writer's Bytes. -/
namespace Go.Proofs.Ytobnibdeimiinaa
open Go.RowKit
set_option maxRecDepth 20000

def encRow (l : List UInt8) : List UInt8 := encN l.length ++ l
def encRows (L : List RowR) : List UInt8 := L.flatMap fun r => encRow r.bs
theorem encRows_cons (r : RowR) (L : List RowR) : encRows (r :: L) = encRow r.bs ++ encRows L := rfl
theorem encRows_length (L : List RowR) : (encRows L).length ≤ 10 * L.length + (flatR L).length := by
  induction L with
  | nil => simp [encRows, flatR]
  | cons r t ih =>
    have := (encN_length r.bs.length).1
    rw [encRows_cons]
    simp only [flatR, List.flatMap_cons, List.length_append, List.length_cons, encRow] at *
    omega
theorem WrAt.keeps {w w' : World} {p base : Nat} {l : List UInt8} {o : Option Nat} {S : Nat → Prop} (h : WrAt w p base l o) (k : Keeps w w' S) (hp : ¬ S p) (ho : ∀ g, o = some g → ¬ S g) : WrAt w' p base l o := by
  obtain ⟨ao, cap, h1, h2, h3, h4⟩ := h
  refine ⟨ao, cap, (k.block p (lt_of_block h1) hp).trans h1, ?_, h3, h4⟩
  refine ⟨h2.1, ?_⟩
  rcases h2.2 with h2 | ⟨g, c, cur, hv, hg, hh, r⟩
  · exact .inl h2
  · exact .inr ⟨g, c, cur, hv, hg, (k.block g (Array.getElem?_eq_some_iff.1 hh).1 (ho g (by rw [h3, hv]; rfl))).trans hh, r⟩
theorem WrAt.grow {w w' : World} {p base : Nat} {l : List UInt8} {o : Option Nat} (h : WrAt w p base l o) (b : Below w.heap.size w w') : WrAt w' p base l o := h.keeps (keeps_same b (fun _ => False)) (fun h => h) (fun _ _ h => h)
/-- One method behind another. -/
theorem WInv.then {w wr wx w' : World} {p base : Nat} {o o' : Option Nat} {full cur x rest : List UInt8} (hw : WrAt wr p base cur o') (hk : Keeps w wr (Foot p o)) (hfr : ∀ g, o' = some g → o = some g ∨ w.heap.size ≤ g) (hx : Below wr.heap.size wr wx) (h : WInv wx w' p base o' (cur ++ x) []) (hfull : cur ++ (x ++ rest) = full) : WInv w w' p base o full rest := by
  obtain ⟨c2, o2, h1, h2, h3, h4⟩ := h
  have hs := hk.size
  have hs2 := hx.size
  rw [List.append_nil] at h2
  have hp := hw.lt
  refine ⟨c2, o2, h1, by rw [h2, List.append_assoc]; exact hfull, ?_, fun g hg => ?_⟩
  · refine hk.trans ((keeps_same hx (Foot p o')).trans h3 (fun _ s => s) (fun _ _ s => s)) (fun _ s => s) (fun i hi s => ?_)
    rcases s with s | s
    · exact .inl s
    · rcases hfr i s with h | h
      · exact .inr h
      · omega
  · rcases h4 g hg with h | h
    · exact hfr g h
    · right; omega

set_option maxHeartbeats 4000000 in
theorem wbytes_any (p base : Nat) (l : List UInt8) (o : Option Nat) (ao : Option Addr) (cap : Nat) (L : List RowR) (D : Nat → Prop) (w : World) (hw : WrAt w p base l o) (hr : RsAt w D ao L) (hDp : ¬ D p) (hDo : ∀ g, o = some g → ¬ D g) (hDw : ∀ x, D x → x < w.heap.size) (hbase : base ≤ w.heap.size) (hm : l.length + 10 * L.length + (flatR L).length + 10 ≤ 140737488351232) :
    Calls Try.prog 55 #[.pointer (some ⟨p, 0, none⟩), .slice ao L.length cap] w fun e w' => e = .returned (.tuple #[]) ∧ WInv w w' p base o (l ++ encRows L) [] := by
  have Hw := Lib.hid hw
  have Hr := Lib.hid hr
  have HD := Lib.hid (⟨hDp, hDo, hDw⟩ : (¬ D p) ∧ (∀ g, o = some g → ¬ D g) ∧ (∀ x, D x → x < w.heap.size))
  have hel := encRows_length L
  have Hel := Lib.hid (show (l ++ encRows L).length + 10 ≤ 140737488351232 by rw [List.length_append]; omega)
  clear hw hr hDp hDo hDw hel
  go_enter Try.func55, Try.ntmps55
  go_wp2_with fail
  go_loopw [8] (fun s8 wr => ∃ k : Nat, s8 = .int .i64 k ∧ k ≤ L.length ∧ Hid (WInv w wr p base o (l ++ encRows L) (encRows (L.drop k)))) (fun s8 _ => L.length - (intOf s8).toNat)
  case atStart => exact ⟨0, rfl, by omega, WInv.start Hw.out⟩
  case round =>
    obtain ⟨k, rfl, hk, hst⟩ := hrel
    by_cases hlt : (k : Int) < L.length
    · obtain ⟨cur, o', hwr, hfull, hkp, hfr⟩ := hst.out
      have hrr := Hr.out.keeps hkp (fun x hx s => by
        rcases s with s | s
        · exact HD.out.1 (s ▸ hx)
        · exact HD.out.2.1 x s hx)
      obtain ⟨b, off, hao, hb, hd, hrow⟩ := hrr (by omega)
      subst hao
      have hra := hrow k (by omega)
      obtain ⟨ro, rc, rb, hL⟩ : ∃ ro rc rb, (⟨ro, rc, rb⟩ : RowR) = L[k]'(by omega) := ⟨_, _, _, rfl⟩
      have hdrop : L.drop k = ⟨ro, rc, rb⟩ :: L.drop (k + 1) := by rw [hL]; exact List.drop_eq_getElem_cons (by omega)
      rw [← hL] at hra
      have c0 : wr.cell? ⟨b, off + k, none⟩ = some (.slice ro rb.length rc) := hra.c
      have hle : rb.length ≤ rc := hra.le
      have hcm : rc ≤ 9223372036854775807 := hra.cm
      have hn0 : ro = none → rb.length = 0 ∧ rc = 0 := hra.n0
      have hat : BIn wr D ro rb := hra.at_
      rw [hdrop, encRows_cons] at hfull
      simp only at hfull
      have hlen := congrArg List.length hfull
      have hfl := Hel.out
      simp only [List.length_append, encRow] at hlen hfl
      have he1 := (encN_length rb.length).2
      have he2 := (encN_length rb.length).1
      have hcl : encs [(rb.length : Int)] = encN rb.length := by
        simp only [encs, List.flatMap_cons, List.flatMap_nil, List.append_nil]
        congr 1
        unfold clampN; omega
      have hbs : base ≤ wr.heap.size := Nat.le_trans hbase hkp.size
      have hpl := hwr.lt
      have hol := hwr.own_lt
      have hcb : cur.length + 10 ≤ 140737488351232 ∧ cur.length + (encN rb.length).length + rb.length ≤ 140737488351232 := by omega
      have Hwr := Lib.hid hwr
      have HL := Lib.hid hL
      have Hfull := Lib.hid hfull
      have Hkp := Lib.hid hkp
      have Hfr := Lib.hid hfr
      have Hn0 := Lib.hid hn0
      have Hat := Lib.hid hat
      have Hcl := Lib.hid hcl
      have Hcb := Lib.hid hcb
      have Hol := Lib.hid hol
      clear hwr hfull hkp hfr hn0 hat hcl hrr hrow hra hL hdrop hlen hfl he1 he2 hcb hol hst
      go_wp2_with fail
      have hnums := nums_some p base cur o' wr.heap.size 0 1 [(rb.length : Int)] (wr.alloc (.cells #[.int .i64 (rb.length : Int)] 3)) (Hwr.out.grow ((Below.refl _ _).alloc (Nat.le_refl _) _)) (fun i hi => by
        have hi0 : i = 0 := by simp at hi; exact hi
        subst hi0
        simp) (by simp) (by omega) (fun h => by have := (Hol.out _ h).1; omega) (by simp only [World.alloc, Array.size_push]; omega) (by have := Hcb.out.1; simp only [List.length_cons, List.length_nil]; omega)
      refine hnums.mono ?_
      rintro e w1 ⟨rfl, hi1⟩
      have h1 := WInv.then (full := l ++ encRows L) (rest := rb ++ encRows (L.drop (k + 1))) Hwr.out Hkp.out Hfr.out ((Below.refl _ _).alloc (Nat.le_refl _) _) hi1 (by rw [Hcl.out, ← Hfull.out]; simp only [encRow, List.append_assoc])
      have H1 := Lib.hid h1
      clear hnums hi1 h1
      obtain ⟨cur1, o1, hwr1, hfull1, hkp1, hfr1⟩ := H1.out
      have hl1 := congrArg List.length hfull1
      have hfl := Hel.out
      simp only [List.length_append] at hl1 hfl
      have hat1 : BIn w1 D ro rb := by
        obtain ⟨b', off', -, -, -, hrow1⟩ := (Hr.out.keeps hkp1 (fun x hx s => by
          rcases s with s | s
          · exact HD.out.1 (s ▸ hx)
          · exact HD.out.2.1 x s hx)) (by omega)
        have := (hrow1 k (by omega)).at_
        rw [← HL.out] at this
        exact this
      have Hat1 := Lib.hid hat1
      have Hwr1 := Lib.hid hwr1
      have hb1 : base ≤ w1.heap.size := Nat.le_trans hbase hkp1.size
      have Hk1 := Lib.hid hkp1
      have Hf1 := Lib.hid hfr1
      have Hfull1 := Lib.hid hfull1
      clear hat1 hwr1 hkp1 hfr1 hfull1 hfl
      go_wp2_with fail
      refine (raw_any p base cur1 o1 ro rc rb w1 Hwr1.out Hn0.out Hat1.out.at hb1 (by have := Hel.out; simp only [List.length_append] at this; omega)).mono ?_
      rintro e w2 ⟨rfl, hi2⟩
      have h2 := WInv.then (rest := encRows (L.drop (k + 1))) Hwr1.out Hk1.out Hf1.out (Below.refl _ _) hi2 Hfull1.out
      have H2 := Lib.hid h2
      clear hi2 h2
      go_wp2_with fail
      go_roundw
      case rel => exact ⟨k + 1, by go_num, by omega, H2⟩
      case measure => simp [intOf]; omega
    · go_wp2_with fail
      go_end0
      refine ⟨rfl, ?_⟩
      have := hst.out
      rwa [List.drop_eq_nil_of_le (by omega)] at this
end Go.Proofs.Ytobnibdeimiinaa

/- A Writer that is made, and done. -/
namespace Go.Proofs.Ytobnibdeimiinaa
open Go.RowKit Go.Joins

/-- A Writer that has just been made. -/
theorem wr_new (w : World) (base : Nat) (n : Nat) (hn : n = w.heap.size) : WrAt (w.alloc (.cells #[.slice none 0 0] 91)) n base [] none := by
  subst hn
  exact ⟨none, 0, heap_new w _, ⟨rfl, .inl ⟨rfl, rfl⟩⟩, rfl, by simp⟩
theorem WInv.done {w wr : World} {p base : Nat} {o : Option Nat} {full : List UInt8} (h : WInv w wr p base o full []) : ∃ o', WrAt wr p base full o' ∧ Keeps w wr (Foot p o) ∧ (∀ g, o' = some g → o = some g ∨ w.heap.size ≤ g) := by
  obtain ⟨cur, o', h1, h2, h3, h4⟩ := h
  rw [List.append_nil] at h2
  subst h2
  exact ⟨o', h1, h3, h4⟩

theorem bin_lit (w : World) (n : Nat) (hn : n = w.heap.size) (l : List UInt8) (t : TypeId) (fr : Nat × Nat) (D : Nat → Prop) (hD : D n) : BIn (w.alloc (.cells (bytV l).toArray t fr)) D (some ⟨n, 0, none⟩) l := fun hp => by
  obtain ⟨b, off, e, hb, hr⟩ := bat_lit w n hn l t fr hp
  simp only [Option.some.injEq, Addr.mk.injEq, and_true] at e
  obtain ⟨rfl, rfl⟩ := e
  exact ⟨n, 0, rfl, hb, hD, hr⟩
theorem BIn.grow {w w' : World} {D : Nat → Prop} {ao : Option Addr} {l : List UInt8} (h : BIn w D ao l) (b : Below w.heap.size w w') : BIn w' D ao l := h.keeps (keeps_same b (fun _ => False)) (fun _ _ h => h)
theorem below_alloc (w : World) (o : Obj) : Below w.heap.size w (w.alloc o) := (Below.refl _ _).alloc (Nat.le_refl _) _
theorem rat_of {w : World} {D : Nat → Prop} {b o : Nat} {g n : Nat} {l : List UInt8} (c : w.cell? ⟨b, o, none⟩ = some (.slice (some ⟨g, 0, none⟩) l.length n)) (hn : l.length ≤ n) (hn2 : n ≤ 9223372036854775807) (h : BIn w D (some ⟨g, 0, none⟩) l) : RAt w D b o ⟨some ⟨g, 0, none⟩, n, l⟩ := ⟨c, hn, hn2, fun h => (nomatch h), h⟩

theorem const_bytes1 (w : World) (o : Obj) (C : Array Value) (n c : Nat) : (convert 58 58 (.slice (some ⟨w.heap.size + 1, 0, none⟩) n c)).run Try.prog ((w.alloc o).alloc (.cells C 5)) = .ok (.slice (some ⟨w.heap.size + 1, 0, none⟩) n c) ((w.alloc o).alloc (.cells C 5 (C.size, C.size + 1))) := by
  have := const_bytes (w.alloc o) C n c
  rwa [show (w.alloc o).heap.size = w.heap.size + 1 from by simp] at this
end Go.Proofs.Ytobnibdeimiinaa

/- The Reader: what it is in memory; contracts of its small methods. -/
namespace Go.Proofs.Ytobnibdeimiinaa
open Go.RowKit
set_option maxRecDepth 20000

/-- A Reader: the block p holds what is left, and whether it erred; what is left lies in the block g. -/
def RdAt (w : World) (p g : Nat) (rest : List UInt8) (bad : Bool) : Prop := ∃ ao cap, w.heap[p]? = some (.cells #[.slice ao rest.length cap, .bool bad] 129 (0, 0)) ∧ rest.length ≤ cap ∧ cap ≤ 9223372036854775807 ∧ (ao = none → rest.length = 0 ∧ cap = 0) ∧ g ≠ p ∧ (0 < rest.length → ∃ off, ao = some ⟨g, off, none⟩ ∧ g < w.heap.size ∧ BRow w g off rest)
theorem cell_of_two {w : World} {b : Nat} {u v : Value} {t : TypeId} (h : w.heap[b]? = some (.cells #[u, v] t (0, 0))) : w.cell? ⟨b, 0, none⟩ = some u ∧ w.cell? ⟨b, 1, none⟩ = some v ∧ w.frozen? ⟨b, 0, none⟩ = false ∧ w.frozen? ⟨b, 1, none⟩ = false := by
  simp [World.cell?, World.frozen?, h]
theorem set_two_fst {w : World} {b : Nat} {u v x : Value} {t : TypeId} (h : w.heap[b]? = some (.cells #[u, v] t (0, 0))) : (w.setCell ⟨b, 0, none⟩ x).heap[b]? = some (.cells #[x, v] t (0, 0)) := by
  simp [World.setCell, Array.getElem?_modify, h]
theorem set_two_snd {w : World} {b : Nat} {u v x : Value} {t : TypeId} (h : w.heap[b]? = some (.cells #[u, v] t (0, 0))) : (w.setCell ⟨b, 1, none⟩ x).heap[b]? = some (.cells #[u, x] t (0, 0)) := by
  simp [World.setCell, Array.getElem?_modify, h]
theorem RdAt.keeps {w w' : World} {p g : Nat} {rest : List UInt8} {bad : Bool} {S : Nat → Prop} (h : RdAt w p g rest bad) (k : Keeps w w' S) (hp : ¬ S p) (hg : ¬ S g) : RdAt w' p g rest bad := by
  obtain ⟨ao, cap, h1, h2, h3, h4, h5, h6⟩ := h
  refine ⟨ao, cap, (k.block p (lt_of_block h1) hp).trans h1, h2, h3, h4, h5, fun hl => ?_⟩
  obtain ⟨off, e, hlt, hr⟩ := h6 hl
  exact ⟨off, e, Nat.lt_of_lt_of_le hlt k.size, hr.keeps hlt k hg⟩

theorem bad_any (p g : Nat) (rest : List UInt8) (bad : Bool) (w : World) (h : RdAt w p g rest bad) :
    Calls Try.prog 94 #[.pointer (some ⟨p, 0, none⟩)] w fun e w' => e = .returned (.tuple #[]) ∧ RdAt w' p g [] true ∧ Keeps w w' (fun x => x = p) := by
  obtain ⟨ao, cap, hh, -, -, -, hgp, -⟩ := h
  obtain ⟨c0, c1, f0, f1⟩ := cell_of_two hh
  have Hh := Lib.hid hh
  clear hh
  go_enter Try.func94, Try.ntmps94
  go_wp2_with fail
  go_end0
  exact ⟨rfl, ⟨none, 0, set_two_snd (set_two_fst Hh.out), Nat.le_refl _, by omega, fun _ => ⟨rfl, rfl⟩, hgp, fun h => by simp at h⟩, (Keeps.set w _ _).trans (Keeps.set _ _ _) (fun _ h => h) (fun _ _ h => h)⟩
theorem good_any (p g : Nat) (rest : List UInt8) (bad : Bool) (w : World) (h : RdAt w p g rest bad) :
    Calls Try.prog 63 #[.pointer (some ⟨p, 0, none⟩)] w fun e w' => e = .returned (.bool !bad) ∧ w = w' := by
  obtain ⟨ao, cap, hh, -⟩ := h
  obtain ⟨c0, c1, f0, f1⟩ := cell_of_two hh
  clear hh
  go_enter Try.func63, Try.ntmps63
  go_wp2_with fail
  go_ret
  exact ⟨rfl, rfl⟩
theorem whole_any (p g : Nat) (rest : List UInt8) (bad : Bool) (w : World) (h : RdAt w p g rest bad) (hm : rest.length ≤ 140737488351232) :
    Calls Try.prog 65 #[.pointer (some ⟨p, 0, none⟩)] w fun e w' => e = .returned (.bool (!bad && rest.isEmpty)) ∧ w = w' := by
  have hgood := good_any p g rest bad w h
  have Hgood := Lib.hid hgood
  obtain ⟨ao, cap, hh, -⟩ := h
  obtain ⟨c0, c1, f0, f1⟩ := cell_of_two hh
  clear hh hgood
  cases bad
  · go_enter Try.func65, Try.ntmps65
    go_wp2_with fail
    refine Hgood.out.mono ?_
    rintro e w1 ⟨rfl, rfl⟩
    go_wp2_with fail
    go_ret
    refine ⟨?_, rfl⟩
    cases rest with
    | nil => simp
    | cons x r => simp; omega
  · go_enter Try.func65, Try.ntmps65
    go_wp2_with fail
    refine Hgood.out.mono ?_
    rintro e w1 ⟨rfl, rfl⟩
    go_wp2_with fail
    go_ret
    exact ⟨rfl, rfl⟩
end Go.Proofs.Ytobnibdeimiinaa

/- Contracts of NewReader and of the Reader's Raw. -/
namespace Go.Proofs.Ytobnibdeimiinaa
open Go.RowKit
set_option maxRecDepth 20000

theorem newReader_any (ao : Option Addr) (cap : Nat) (bs : List UInt8) (w : World) (h0 : ao = none → bs.length = 0 ∧ cap = 0) (ha : BAt w ao bs) (hm : bs.length ≤ 140737488351232) :
    Calls Try.prog 60 #[.slice ao bs.length cap] w fun e w' => ∃ p g, e = .returned (.pointer (some ⟨p, 0, none⟩)) ∧ RdAt w' p g bs false ∧ Below w.heap.size w w' ∧ w.heap.size ≤ p ∧ w.heap.size ≤ g := by
  go_enter Try.func60, Try.ntmps60
  go_wp2_with fail
  refine (clone_any ao cap bs _ h0 ha hm).mono ?_
  rintro e w1 ⟨bo, c, rfl, ho, hb⟩
  go_wp2_with fail
  go_ret
  have hs := hb.size
  have hrd : ∃ g, RdAt (w1.alloc (.cells #[.slice bo bs.length c, .bool false] 129)) w1.heap.size g bs false ∧ w.heap.size ≤ g := by
    by_cases hp : 0 < bs.length
    · obtain ⟨g, e, hbg, hlt, hr⟩ := ho.row hp
      exact ⟨g, ⟨bo, c, heap_new _ _, ho.le.1, ho.le.2, ho.none, by omega, fun _ => ⟨0, e, by simp; omega, hr.below hlt ((Below.refl _ _).alloc (Nat.le_refl _) _)⟩⟩, hbg⟩
    · exact ⟨w1.heap.size + 1, ⟨bo, c, heap_new _ _, ho.le.1, ho.le.2, ho.none, by omega, fun h => absurd h hp⟩, by omega⟩
  obtain ⟨g, hg1, hg2⟩ := hrd
  exact ⟨w1.heap.size, g, rfl, hg1, hb.alloc hs _, hs, hg2⟩

set_option maxHeartbeats 1000000 in
theorem rdraw_no (p g : Nat) (rest : List UInt8) (bad : Bool) (n : Int) (w : World) (h : RdAt w p g rest bad) (hn : n < 0 ∨ (rest.length : Int) < n) :
    Calls Try.prog 95 #[.pointer (some ⟨p, 0, none⟩), .int .i64 n] w fun e w' => e = .returned (.slice none 0 0) ∧ RdAt w' p g [] true ∧ Keeps w w' (fun x => x = p) := by
  have hbad := bad_any p g rest bad w h
  have Hbad := Lib.hid hbad
  obtain ⟨ao, cap, hh, -⟩ := h
  obtain ⟨c0, c1, f0, f1⟩ := cell_of_two hh
  clear hh hbad
  by_cases h1 : n < 0
  all_goals
    go_enter Try.func95, Try.ntmps95
    go_wp2_with fail
    all_goals first | (exfalso; omega) | skip
    refine Hbad.out.mono ?_
    rintro e w1 ⟨rfl, hr, hk⟩
    go_wp2_with fail
    go_ret
    exact ⟨rfl, hr, hk⟩
theorem own_set {w : World} {base : Nat} {ao : Option Addr} {cap : Nat} {l : List UInt8} (h : OwnB w base ao cap l) (a : Addr) (v : Value) (ha : a.block < base) : OwnB (w.setCell a v) base ao cap l :=
  ownsRow_setCell_other h (fun e => by
    rcases h.2 with ⟨hv, -⟩ | ⟨g, c, cur, hv, hb, -⟩
    · simp only [Value.slice.injEq] at hv
      rw [hv.1] at e
      simp [Value.ownBlock] at e
    · simp only [Value.slice.injEq] at hv
      rw [hv.1] at e
      simp only [Value.ownBlock, Option.some.injEq] at e
      omega) v
/-- What is left after a take of n. -/
theorem rd_cut {w w1 : World} {p g n cap : Nat} {rest : List UInt8} {bad : Bool} {ao ao' : Option Addr} {cap' : Nat} (hw : w1.heap[p]? = some (.cells #[.slice ao rest.length cap, .bool bad] 129 (0, 0))) (hn : n ≤ rest.length) (hlc : rest.length ≤ cap) (hcm : cap ≤ 9223372036854775807) (hgp : g ≠ p)
    (hrow : 0 < rest.length → ∃ off, ao = some ⟨g, off, none⟩ ∧ g < w.heap.size ∧ BRow w g off rest) (hb : Below w.heap.size w w1) (hc : cap' = cap - n) (h0 : ao' = none → rest.length - n = 0 ∧ cap' = 0) (hao : n < rest.length → ao' = ao.map fun x => x.add n) :
    RdAt (w1.setCell ⟨p, 0, none⟩ (.slice ao' (rest.length - n) cap')) p g (rest.drop n) bad := by
  have hln : rest.length - n = (rest.drop n).length := by rw [List.length_drop]
  rw [hln]
  refine ⟨ao', cap', set_two_fst hw, by rw [List.length_drop]; omega, by omega, fun h => by rw [List.length_drop]; exact h0 h, hgp, fun hp => ?_⟩
  rw [List.length_drop] at hp
  obtain ⟨off, e, hlt, hr⟩ := hrow (by omega)
  refine ⟨off + n, by rw [hao (by omega), e]; simp only [Option.map_some, add_none], by simp only [World.setCell, Array.size_modify]; exact Nat.lt_of_lt_of_le hlt hb.size, fun i hi => ?_⟩
  rw [World.cell?_of_block (w := w1) (Below.heap_setCell _ _ _ _ hgp)]
  rw [List.length_drop] at hi
  have := (hr.below hlt hb) (n + i) (by omega)
  rw [List.getElem_drop, Nat.add_assoc]
  exact this
set_option maxHeartbeats 1000000 in
theorem rdraw_yes (p g : Nat) (rest : List UInt8) (bad : Bool) (n : Nat) (w : World) (h : RdAt w p g rest bad) (hn : n ≤ rest.length) (hm : rest.length ≤ 140737488351232) :
    Calls Try.prog 95 #[.pointer (some ⟨p, 0, none⟩), .int .i64 n] w fun e w' => ∃ ao cap, e = .returned (.slice ao n cap) ∧ OwnB w' w.heap.size ao cap (rest.take n) ∧ RdAt w' p g (rest.drop n) bad ∧ Keeps w w' (fun x => x = p) := by
  obtain ⟨ao, cap, hh, hlc, hcm, hnone, hgp, hrow⟩ := h
  obtain ⟨c0, c1, f0, f1⟩ := cell_of_two hh
  have Hh := Lib.hid hh
  have Hnone := Lib.hid hnone
  have Hrow := Lib.hid hrow
  clear hh hnone hrow
  have h1 : ¬ (n : Int) < 0 := by omega
  have h2 : ¬ (rest.length : Int) < n := by omega
  go_enter Try.func95, Try.ntmps95
  go_wp2_with fail
  have hcl : Calls Try.prog 93 #[.slice ao n cap] w fun e w' => ∃ bo c, e = .returned (.slice bo n c) ∧ OwnB w' w.heap.size bo c (rest.take n) ∧ Below w.heap.size w w' := by
    have hl : (rest.take n).length = n := by rw [List.length_take, Nat.min_eq_left hn]
    have := clone_any ao cap (rest.take n) w (fun h => by have := Hnone.out h; omega) (fun hp => by
      obtain ⟨off, e, hlt, hr⟩ := Hrow.out (by omega)
      exact ⟨g, off, e, hlt, fun i hi => by rw [List.getElem_take]; exact hr i (by omega)⟩) (by omega)
    unfold FreshB at this
    rw [hl] at this
    exact this
  refine hcl.mono ?_
  rintro e w1 ⟨bo, c, rfl, ho, hb⟩
  have hh1 : w1.heap[p]? = some (.cells #[.slice ao rest.length cap, .bool bad] 129 (0, 0)) := (hb.block p (lt_of_block Hh.out)).trans Hh.out
  obtain ⟨d0, d1, e0, e1⟩ := cell_of_two hh1
  have Ho := Lib.hid ho
  have Hh1 := Lib.hid hh1
  have Hb := Lib.hid hb
  clear ho hh1 hb hcl c0 c1 f0 f1
  go_wp2_with fail
  · go_ret
    have hrn : rest.length = n := by omega
    refine ⟨bo, c, rfl, own_set Ho.out _ _ (lt_of_block Hh.out), ?_, (Keeps.of_grown Hb.out (Nat.le_refl _) (fun _ => False)).trans (Keeps.set _ _ _) (fun _ h => h.elim) (fun _ _ h => h)⟩
    exact rd_cut Hh1.out hn hlc hcm hgp Hrow.out Hb.out (by omega) (fun _ => ⟨by omega, rfl⟩) (fun h => by omega)
  · go_ret
    refine ⟨bo, c, rfl, own_set Ho.out _ _ (lt_of_block Hh.out), ?_, (Keeps.of_grown Hb.out (Nat.le_refl _) (fun _ => False)).trans (Keeps.set _ _ _) (fun _ h => h.elim) (fun _ _ h => h)⟩
    exact rd_cut Hh1.out hn hlc hcm hgp Hrow.out Hb.out rfl (fun h => by
      rw [Option.map_eq_none_iff] at h
      have := Hnone.out h
      omega) (fun _ => rfl)
end Go.Proofs.Ytobnibdeimiinaa

/- A number taken from bytes, in plain Lean. -/
namespace Go.Proofs.Ytobnibdeimiinaa

/-- From the i-th byte on, u being what came before: the number and what is left behind it. -/
def numR (i u : Nat) : List UInt8 → Option (Nat × List UInt8)
  | [] => none
  | c :: r => if 9 ≤ i ∨ (0 < i ∧ c = 0) then none else
    if c.toNat < 128 then (if 4611686018427387904 < u + c.toNat * 128 ^ i then none else some (u + c.toNat * 128 ^ i, r))
    else numR (i + 1) (u + (c.toNat % 128) * 128 ^ i) r
def numOf (l : List UInt8) : Option (Nat × List UInt8) := numR 0 0 l

theorem bits_seven_all : ∀ m : Fin 256, bits BinOp.and IntKind.u8 ((m.val : Nat) : Int) 127 = ((m.val % 128 : Nat) : Int) := by decide +kernel
theorem bits_seven (c : UInt8) : bits BinOp.and IntKind.u8 (c.toNat : Int) 127 = ((c.toNat % 128 : Nat) : Int) := bits_seven_all ⟨c.toNat, c.toNat_lt⟩
theorem pow_seven (i : Nat) : (2 : Nat) ^ (7 * i) = 128 ^ i := by rw [Nat.pow_mul]
/-- The digit that a byte lays on top. -/
theorem bits_digit (i u : Nat) (c : UInt8) (hi : i < 9) (hu : u < 128 ^ i) : bits BinOp.or IntKind.u64 (u : Int) (IntKind.u64.wrap ((c.toNat : Int) % 128 * 2 ^ (7 * i))) = ((u + c.toNat % 128 * 128 ^ i : Nat) : Int) := by
  have h9 : (128 : Nat) ^ i ≤ 128 ^ 8 := Nat.pow_le_pow_right (by omega) (by omega)
  have h8 : (128 : Nat) ^ 8 = 72057594037927936 := by decide
  obtain ⟨d, hde⟩ : ∃ d, d = c.toNat % 128 := ⟨_, rfl⟩
  have hd : d < 128 := by omega
  have hdm : d * 128 ^ i ≤ 127 * 72057594037927936 := Nat.mul_le_mul (by omega) (by omega)
  have e2 : (2 : Int) ^ (7 * i) = ((128 ^ i : Nat) : Int) := by rw [← pow_seven]; push_cast; rfl
  rw [← hde, show (c.toNat : Int) % 128 = (d : Int) from by omega, e2, ← Int.natCast_mul, IntKind.wrap_u64, Int.emod_eq_of_lt (by omega) (by omega), bits_or_u64_nat _ _ (by omega) (by omega)]
  congr 1
  rw [Nat.mul_comm d, ← pow_seven] at *
  rw [Nat.or_comm, ← Nat.two_pow_add_eq_or_of_lt hu, Nat.add_comm]
theorem digit_lt (i u d : Nat) (hu : u < 128 ^ i) (hd : d < 128) : u + d * 128 ^ i < 128 ^ (i + 1) := by
  have : d * 128 ^ i ≤ 127 * 128 ^ i := Nat.mul_le_mul_right _ (by omega)
  rw [Nat.pow_succ]; omega
theorem numR_left : ∀ (l : List UInt8) (i u : Nat) (n : Nat) (r : List UInt8), numR i u l = some (n, r) → n ≤ 4611686018427387904 ∧ ∃ k, 0 < k ∧ k ≤ l.length ∧ r = l.drop k
  | [], _, _, _, _, h => by simp [numR] at h
  | c :: t, i, u, n, r, h => by
    simp only [numR] at h
    split at h
    · simp at h
    · split at h
      · split at h
        · simp at h
        · simp only [Option.some.injEq, Prod.mk.injEq] at h
          obtain ⟨rfl, rfl⟩ := h
          exact ⟨by omega, 1, by omega, by simp, rfl⟩
      · obtain ⟨h1, k, hk, hl, e⟩ := numR_left t _ _ _ _ h
        exact ⟨h1, k + 1, by omega, by simp; omega, by rw [e]; rfl⟩
end Go.Proofs.Ytobnibdeimiinaa

/- The contract of the Reader's Num. -/
namespace Go.Proofs.Ytobnibdeimiinaa
open Go.RowKit
set_option maxRecDepth 20000

set_option maxRecDepth 8000 in
set_option maxHeartbeats 4000000 in
theorem rdnum_any (p g : Nat) (rest : List UInt8) (bad : Bool) (w : World) (h : RdAt w p g rest bad) (hm : rest.length ≤ 140737488351232) :
    Calls Try.prog 62 #[.pointer (some ⟨p, 0, none⟩)] w fun e w' => (∀ n r, numOf rest = some (n, r) → e = .returned (.int .i64 (n : Nat)) ∧ RdAt w' p g r bad) ∧ (numOf rest = none → e = .returned (.int .i64 0) ∧ RdAt w' p g [] true) ∧ Keeps w w' (fun x => x = p) := by
  have Hbad := Lib.hid (bad_any p g rest bad w h)
  obtain ⟨ao, cap, hh, hlc, hcm, hnone, hgp, hrow⟩ := h
  obtain ⟨c0, c1, f0, f1⟩ := cell_of_two hh
  have Hh := Lib.hid hh
  have Hnone := Lib.hid hnone
  have Hrow := Lib.hid hrow
  clear hh hnone hrow
  go_enter Try.func62, Try.ntmps62
  go_wp2_with fail
  go_loopw [13, 3] (fun s13 s3 wr => wr = w ∧ ∃ k u : Nat, k ≤ rest.length ∧ k ≤ 9 ∧ s13 = .int .i64 k ∧ s3 = .int .u64 u ∧ u < 128 ^ k ∧ Hid (numR k u (rest.drop k) = numOf rest)) (fun s13 _ _ => rest.length - (intOf s13).toNat)
  case atStart => exact ⟨rfl, 0, 0, by omega, by omega, rfl, rfl, by decide, rfl⟩
  case round =>
    obtain ⟨rfl, k, u, hk, hk9, rfl, rfl, hu, hst⟩ := hrel
    by_cases hlt : k < rest.length
    · obtain ⟨off, rfl, hglt, hr⟩ := Hrow.out (by omega)
      have hcv := hr k hlt
      obtain ⟨c, hc⟩ : ∃ c, c = rest[k] := ⟨_, rfl⟩
      have hdrop : rest.drop k = c :: rest.drop (k + 1) := by rw [hc]; exact List.drop_eq_getElem_cons hlt
      rw [← hc] at hcv
      have Hdrop := Lib.hid hdrop
      have Hr := Lib.hid hr
      have Hu := Lib.hid hu
      clear hc hdrop hr hu
      by_cases h9 : (9 : Int) ≤ k
      · have Hno : Hid (numOf rest = none) := by
          have := hst.out
          rw [Hdrop.out] at this
          rw [Hid, ← this]
          simp only [numR]
          rw [if_pos (.inl (by omega))]
        (go_wp2_with fail); (refine Hbad.out.mono ?_); (rintro e w1 ⟨rfl, hr, hk⟩); (go_wp2_with fail); go_ret; exact ⟨fun n r h => (nomatch (Hno.out.symm.trans h)), fun _ => ⟨rfl, hr⟩, hk⟩
      · have hbd := bits_digit k u c (by omega) Hu.out
        by_cases hz : 0 < k ∧ c = 0
        · have Hno : Hid (numOf rest = none) := by
            have := hst.out
            rw [Hdrop.out] at this
            rw [Hid, ← this]
            simp only [numR]
            rw [if_pos (.inr hz)]
          obtain ⟨h0, rfl⟩ := hz
          have hc0 : ((0 : UInt8).toNat : Int) = 0 := rfl
          (go_wp2_with fail); (refine Hbad.out.mono ?_); (rintro e w1 ⟨rfl, hr, hk⟩); (go_wp2_with fail); go_ret; exact ⟨fun n r h => (nomatch (Hno.out.symm.trans h)), fun _ => ⟨rfl, hr⟩, hk⟩
        · have hgo : ¬ (9 ≤ k ∨ (0 < k ∧ c = 0)) := by
            rintro (h | h)
            · omega
            · exact hz h
          have Hgo := Lib.hid hgo
          have hc0 : 0 < k → ¬ (c.toNat : Int) = 0 := fun h e => hz ⟨h, UInt8.toNat_inj.1 (by rw [UInt8.toNat_zero]; omega)⟩
          clear hgo hz
          have hbs : bits BinOp.and IntKind.u8 (c.toNat : Int) 127 = (c.toNat : Int) % 128 := by rw [bits_seven]; omega
          obtain ⟨q, hq⟩ : ∃ q, q = u + c.toNat % 128 * 128 ^ k := ⟨_, rfl⟩
          rw [← hq] at hbd
          have Hq := Lib.hid hq
          clear hq
          have hstep : ¬ c.toNat < 128 → numR (k + 1) q (rest.drop (k + 1)) = numOf rest ∧ q < 128 ^ (k + 1) := fun h => by
            have h1 := hst.out
            rw [Hdrop.out] at h1
            simp only [numR] at h1
            rw [if_neg Hgo.out, if_neg h, ← Hq.out] at h1
            exact ⟨h1, by rw [Hq.out]; exact digit_lt k u _ Hu.out (by omega)⟩
          have hend : c.toNat < 128 → numOf rest = if 4611686018427387904 < q then none else some (q, rest.drop (k + 1)) := fun h => by
            have h1 := hst.out
            rw [Hdrop.out] at h1
            simp only [numR] at h1
            rw [if_neg Hgo.out, if_pos h] at h1
            rw [Hq.out, Nat.mod_eq_of_lt h]
            exact h1.symm
          have Hstep := Lib.hid hstep
          have Hend := Lib.hid hend
          clear hstep hend
          by_cases h0 : (0 : Int) < k
          all_goals (try have hc0 := hc0 (by omega))
          all_goals by_cases hc128 : (c.toNat : Int) < 128
          · by_cases hbig : (4611686018427387904 : Int) < q
            · have Hno : Hid (numOf rest = none) := by rw [Hid, Hend.out (by omega), if_pos (by omega)]
              (go_wp2_with fail); (refine Hbad.out.mono ?_); (rintro e w1 ⟨rfl, hr, hk⟩); (go_wp2_with fail); go_ret; exact ⟨fun n r h => (nomatch (Hno.out.symm.trans h)), fun _ => ⟨rfl, hr⟩, hk⟩
            · (go_wp2_with fail)
              all_goals go_ret
              all_goals have hy : numOf rest = some (q, rest.drop (k + 1)) := by rw [Hend.out (by omega), if_neg (by omega)]
              all_goals refine ⟨fun n r h => ?_, fun h => (nomatch (hy.symm.trans h)), Keeps.set _ _ _⟩
              all_goals (rw [hy] at h; simp only [Option.some.injEq, Prod.mk.injEq] at h; obtain ⟨rfl, rfl⟩ := h; refine ⟨rfl, ?_⟩)
              all_goals exact rd_cut (n := k + 1) Hh.out (by omega) hlc hcm hgp Hrow.out (Below.refl _ _) (by omega) (fun h => (nomatch h)) (fun h => by first | omega | simp [Addr.add])
          · go_wp2_with fail
            go_roundw
            case rel => exact ⟨trivial, k + 1, q, by omega, by omega, by go_num, rfl, (Hstep.out (by omega)).2, (Hstep.out (by omega)).1⟩
            case measure => simp [intOf]; omega
          · by_cases hbig : (4611686018427387904 : Int) < q
            · have Hno : Hid (numOf rest = none) := by rw [Hid, Hend.out (by omega), if_pos (by omega)]
              (go_wp2_with fail); (refine Hbad.out.mono ?_); (rintro e w1 ⟨rfl, hr, hk⟩); (go_wp2_with fail); go_ret; exact ⟨fun n r h => (nomatch (Hno.out.symm.trans h)), fun _ => ⟨rfl, hr⟩, hk⟩
            · (go_wp2_with fail)
              all_goals go_ret
              all_goals have hy : numOf rest = some (q, rest.drop (k + 1)) := by rw [Hend.out (by omega), if_neg (by omega)]
              all_goals refine ⟨fun n r h => ?_, fun h => (nomatch (hy.symm.trans h)), Keeps.set _ _ _⟩
              all_goals (rw [hy] at h; simp only [Option.some.injEq, Prod.mk.injEq] at h; obtain ⟨rfl, rfl⟩ := h; refine ⟨rfl, ?_⟩)
              all_goals exact rd_cut (n := k + 1) Hh.out (by omega) hlc hcm hgp Hrow.out (Below.refl _ _) (by omega) (fun h => (nomatch h)) (fun h => by first | omega | simp [Addr.add])
          · go_wp2_with fail
            go_roundw
            case rel => exact ⟨trivial, k + 1, q, by omega, by omega, by go_num, rfl, (Hstep.out (by omega)).2, (Hstep.out (by omega)).1⟩
            case measure => simp [intOf]; omega
    · have Hno : Hid (numOf rest = none) := by
        have := hst.out
        rw [List.drop_eq_nil_of_le (by omega)] at this
        rw [Hid, ← this]
        rfl
      (go_wp2_with fail); (refine Hbad.out.mono ?_); (rintro e w1 ⟨rfl, hr, hk⟩); (go_wp2_with fail); go_ret; exact ⟨fun n r h => (nomatch (Hno.out.symm.trans h)), fun _ => ⟨rfl, hr⟩, hk⟩
end Go.Proofs.Ytobnibdeimiinaa

/- The contract of the Reader's Bytes. -/
namespace Go.Proofs.Ytobnibdeimiinaa
open Go.RowKit
set_option maxRecDepth 20000

/-- A row taken: the row and what is left behind it. -/
def bytesOf (l : List UInt8) : Option (List UInt8 × List UInt8) := match numOf l with
  | none => none
  | some (n, r) => if n ≤ r.length then some (r.take n, r.drop n) else none
/-- What a reader answers and becomes. -/
def tookOf (rest : List UInt8) (bad : Bool) : List UInt8 × List UInt8 × Bool := match bytesOf rest with
  | some (x, r) => (x, r, bad)
  | none => ([], [], true)
theorem own_nothing (w : World) (base : Nat) : OwnB w base none 0 [] := ⟨rfl, .inl ⟨rfl, rfl⟩⟩
theorem RdAt.lt {w : World} {p g : Nat} {rest : List UInt8} {bad : Bool} (h : RdAt w p g rest bad) : p < w.heap.size := by
  obtain ⟨ao, cap, h1, -⟩ := h
  exact lt_of_block h1
theorem numOf_left {l : List UInt8} {n : Nat} {r : List UInt8} (h : numOf l = some (n, r)) : r.length ≤ l.length ∧ n ≤ 4611686018427387904 := by
  obtain ⟨h1, k, -, -, e⟩ := numR_left l 0 0 n r h
  exact ⟨by rw [e, List.length_drop]; omega, h1⟩

set_option maxHeartbeats 1000000 in
theorem rdbytes_any (p g : Nat) (rest : List UInt8) (bad : Bool) (w : World) (h : RdAt w p g rest bad) (hm : rest.length ≤ 140737488351232) :
    Calls Try.prog 64 #[.pointer (some ⟨p, 0, none⟩)] w fun e w' => ∃ x r' b' ao cap, (x, r', b') = tookOf rest bad ∧ e = .returned (.slice ao x.length cap) ∧ OwnB w' w.heap.size ao cap x ∧ RdAt w' p g r' b' ∧ Keeps w w' (fun x => x = p) := by
  have Hnum := Lib.hid (rdnum_any p g rest bad w h hm)
  have hlt := h.lt
  clear h
  have Htook : Hid (tookOf rest bad = match numOf rest with | none => ([], [], true) | some (n, r) => if n ≤ r.length then (r.take n, r.drop n, bad) else ([], [], true)) := by
    unfold Hid tookOf bytesOf
    cases numOf rest with
    | none => rfl
    | some o => obtain ⟨n, r⟩ := o; simp only; by_cases hc : n ≤ r.length <;> simp only [hc, if_true, if_false]
  go_enter Try.func64, Try.ntmps64
  go_wp2_with fail
  refine Hnum.out.mono ?_
  rintro e w1 ⟨hy, hn, hk⟩
  have hs := hk.size
  cases ho : numOf rest with
  | none =>
    obtain ⟨rfl, hr⟩ := hn ho
    have htook := Htook.out
    rw [ho] at htook
    have Ht := Lib.hid htook
    have Hraw := Lib.hid (rdraw_yes p g [] true 0 w1 hr (Nat.le_refl _) (by simp))
    clear hy hn hr ho htook
    go_wp2_with fail
    refine Hraw.out.mono ?_
    rintro e w2 ⟨ao, cap, rfl, hown, hr2, hk2⟩
    go_wp2_with fail
    go_ret
    exact ⟨[], [], true, ao, cap, Ht.out.symm, rfl, own_weak hown hs, hr2, hk.trans hk2 (fun _ h => h) (fun _ _ h => h)⟩
  | some o =>
    obtain ⟨n, r⟩ := o
    obtain ⟨rfl, hr⟩ := hy n r ho
    obtain ⟨hl, hnle⟩ := numOf_left ho
    have htook := Htook.out
    rw [ho] at htook
    simp only at htook
    by_cases hnr : n ≤ r.length
    · rw [if_pos hnr] at htook
      have Ht := Lib.hid htook
      have Hraw := Lib.hid (rdraw_yes p g r bad n w1 hr hnr (by omega))
      clear hy hn hr ho htook
      go_wp2_with fail
      refine Hraw.out.mono ?_
      rintro e w2 ⟨ao, cap, rfl, hown, hr2, hk2⟩
      go_wp2_with fail
      go_ret
      refine ⟨r.take n, r.drop n, bad, ao, cap, Ht.out.symm, ?_, own_weak hown hs, hr2, hk.trans hk2 (fun _ h => h) (fun _ _ h => h)⟩
      rw [List.length_take, Nat.min_eq_left hnr]; rfl
    · rw [if_neg hnr] at htook
      have Ht := Lib.hid htook
      have Hraw := Lib.hid (rdraw_no p g r bad n w1 hr (.inr (by omega)))
      clear hy hn hr ho htook
      go_wp2_with fail
      refine Hraw.out.mono ?_
      rintro e w2 ⟨rfl, hr2, hk2⟩
      go_wp2_with fail
      go_ret
      exact ⟨[], [], true, none, 0, Ht.out.symm, rfl, own_nothing _ _, hr2, hk.trans hk2 (fun _ h => h) (fun _ _ h => h)⟩
end Go.Proofs.Ytobnibdeimiinaa

/- The document's Num, Nums and Bytes. -/
namespace Go.Proofs.Ytobnibdeimiinaa
open Go.RowKit
set_option maxRecDepth 20000

theorem bits_and_seven (q : Nat) (h : q ≤ 4611686018427387904) : bits .and .u64 (q : Int) 127 = (q : Int) % 128 := by
  rw [show (127 : Int) = ((127 : Nat) : Int) from rfl, bits_and_u64_nat q 127 (by omega) (by omega)]
  rw [show (127 : Nat) = 2 ^ 7 - 1 from rfl, Nat.and_two_pow_sub_one_eq_mod]
  omega
theorem bits_more7 (q : Nat) : bits BinOp.or IntKind.u8 ((q : Int) % 128) 128 = ((UInt8.ofNat (q % 128 + 128)).toNat : Int) := by
  have h := bits_more (q % 128)
  rw [show (((q % 128 : Nat)) : Int) % 256 = (q : Int) % 128 from by omega, Nat.mod_mod] at h
  exact h

set_option maxHeartbeats 4000000 in
theorem refNum_any (v : Int) (w : World) : Calls Try.prog 58 #[.int .i64 v] w (FreshB w (encN (clampN v))) := by
  obtain ⟨i0, hi, hz0, hz1, hz2⟩ := info_parts byteInfo
  obtain ⟨u, hu⟩ : ∃ u, u = clampN v := ⟨_, rfl⟩
  have hul : u ≤ 4611686018427387904 := hu ▸ clampN_le v
  rw [← hu]
  have Hul := Lib.hid hul
  by_cases hbig : 4611686018427387904 < v
  · have hue : u = 4611686018427387904 := by rw [hu]; unfold clampN; omega
    have Hue := Lib.hid hue
    clear hu hue hul
    go_enter Try.func58, Try.ntmps58
    go_wp2_with fail
    go_loopw [3, 4] (fun s3 s4 wr => ∃ (q : Nat) (cur : List UInt8) (ao : Option Addr) (cap : Nat), s3 = .int .u64 q ∧ s4 = .slice ao cur.length cap ∧ q ≤ 4611686018427387904 ∧ cur.length ≤ 10 ∧ Hid (OwnB wr w.heap.size ao cap cur) ∧ Hid (Below w.heap.size w wr) ∧ Hid (cur ++ encN q = encN u)) (fun s3 _ _ => (intOf s3).toNat)
    case atStart => exact ⟨u, [], none, 0, by rw [Hue.out] <;> rfl, rfl, Hul.out, by simp, ⟨rfl, .inl ⟨rfl, rfl⟩⟩, Below.refl _ _, rfl⟩
    case round =>
      clear Hue
      obtain ⟨q, cur, ao, cap, rfl, rfl, hq, hcl, Hown, Hb, Hfull⟩ := hrel
      have hbs := Hb.out.size
      have hfl := congrArg List.length Hfull.out
      rw [List.length_append] at hfl
      have hel := encN_length u
      by_cases h128 : (128 : Int) ≤ q
      · have hb7 := bits_and_seven q hq
        have hbm := bits_more7 q
        obtain ⟨c, hc⟩ : ∃ c : UInt8, c = UInt8.ofNat (q % 128 + 128) := ⟨_, rfl⟩
        rw [← hc] at hbm
        have Hc := Lib.hid hc
        clear hc
        have hcl2 : cur.length + 1 ≤ 10 := by
          have h1 := (encN_length q).2
          omega
        go_wp2_with (at_builtin; go_must (refine wpList_append_foot _ rfl (.tmp 13) (.tmp 18) 58 rfl w.heap.size 5 i0 (.int .u8 0) 1 1 Try.underlying58 hi hz0 hz1 hz2 rfl (by decide) ao cur.length cap (bytV cur) rfl (Hown.out.alloc _) (some ⟨wr.heap.size, 0, none⟩) 1 1 (bytV [c]) rfl (fun h => by cases h) rfl (one_cell _ _ _ _ rfl) (bytV_one [c]) (by unfold maxLen; omega) (by omega) (by simp; omega) ?_))
        intro co c' w1 hown1 hgrow1 hco1
        have hb1 : Below w.heap.size w w1 := below_grown (Hb.out.alloc hbs _) (by simp; omega) hgrow1 (fun k hk => own_block Hown.out hk)
        have ho1 : OwnB w1 w.heap.size co c' (cur ++ [c]) := by unfold OwnB; rw [← bytV_append, List.length_append]; exact hown1
        have Hb1 := Lib.hid hb1
        have Ho1 := Lib.hid ho1
        clear hown1 hgrow1 hco1 hb1 ho1 hbm hb7
        go_wp2_with fail
        go_roundw
        case rel => exact ⟨q / 128, cur ++ [c], co, c', by simp, by simp, by omega, by simp; omega, Ho1, Hb1, by unfold Hid; rw [List.append_assoc]; rw [← Hfull.out, encN_big (n := q) (by omega) hq, ← Hc.out]; rfl⟩
        case measure => simp [intOf]; omega
      · obtain ⟨c, hc⟩ : ∃ c : UInt8, c = UInt8.ofNat q := ⟨_, rfl⟩
        have hcq : (q : Int) = (c.toNat : Int) := by rw [hc]; simp; omega
        have Hc := Lib.hid hc
        have Hcq := Lib.hid hcq
        clear hc hcq
        go_wp2_with (at_builtin; go_must (refine wpList_append_foot _ rfl (.tmp 22) (.tmp 25) 58 rfl w.heap.size 5 i0 (.int .u8 0) 1 1 Try.underlying58 hi hz0 hz1 hz2 rfl (by decide) ao cur.length cap (bytV cur) rfl (Hown.out.alloc _) (some ⟨wr.heap.size, 0, none⟩) 1 1 (bytV [c]) rfl (fun h => by cases h) rfl (one_cell _ _ _ _ Hcq.out) (bytV_one [c]) (by unfold maxLen; omega) (by omega) (by simp; omega) ?_))
        intro co c' w1 hown1 hgrow1 hco1
        have hb1 : Below w.heap.size w w1 := below_grown (Hb.out.alloc hbs _) (by simp; omega) hgrow1 (fun k hk => own_block Hown.out hk)
        have ho1 : OwnB w1 w.heap.size co c' (cur ++ [c]) := by unfold OwnB; rw [← bytV_append, List.length_append]; exact hown1
        have hcc : cur ++ [c] = encN u := by rw [← Hfull.out, encN_small (n := q) (by omega), ← Hc.out]
        rw [hcc] at ho1
        have hlen : cur.length + 1 = (encN u).length := by rw [← hcc]; simp
        have Hb1 := Lib.hid hb1
        have Ho1 := Lib.hid ho1
        have Hlen := Lib.hid hlen
        clear hown1 hgrow1 hco1 hb1 ho1 hcc hlen
        go_wp2_with fail
        go_ret
        exact ⟨co, c', by rw [← Hlen.out]; rfl, Ho1.out, Hb1.out⟩
  by_cases hpos : 0 < v
  · obtain ⟨n, rfl⟩ : ∃ n : Nat, v = n := ⟨v.toNat, by omega⟩
    have hue : u = n := by rw [hu]; unfold clampN; omega
    have Hue := Lib.hid hue
    have hwr : IntKind.u64.wrap (n : Int) = n := by rw [IntKind.wrap_u64]; omega
    clear hu hue hul
    go_enter Try.func58, Try.ntmps58
    go_wp2_with fail
    go_loopw [3, 4] (fun s3 s4 wr => ∃ (q : Nat) (cur : List UInt8) (ao : Option Addr) (cap : Nat), s3 = .int .u64 q ∧ s4 = .slice ao cur.length cap ∧ q ≤ 4611686018427387904 ∧ cur.length ≤ 10 ∧ Hid (OwnB wr w.heap.size ao cap cur) ∧ Hid (Below w.heap.size w wr) ∧ Hid (cur ++ encN q = encN u)) (fun s3 _ _ => (intOf s3).toNat)
    case atStart => exact ⟨u, [], none, 0, by rw [Hue.out] <;> rfl, rfl, Hul.out, by simp, ⟨rfl, .inl ⟨rfl, rfl⟩⟩, Below.refl _ _, rfl⟩
    case round =>
      clear Hue
      obtain ⟨q, cur, ao, cap, rfl, rfl, hq, hcl, Hown, Hb, Hfull⟩ := hrel
      have hbs := Hb.out.size
      have hfl := congrArg List.length Hfull.out
      rw [List.length_append] at hfl
      have hel := encN_length u
      by_cases h128 : (128 : Int) ≤ q
      · have hb7 := bits_and_seven q hq
        have hbm := bits_more7 q
        obtain ⟨c, hc⟩ : ∃ c : UInt8, c = UInt8.ofNat (q % 128 + 128) := ⟨_, rfl⟩
        rw [← hc] at hbm
        have Hc := Lib.hid hc
        clear hc
        have hcl2 : cur.length + 1 ≤ 10 := by
          have h1 := (encN_length q).2
          omega
        go_wp2_with (at_builtin; go_must (refine wpList_append_foot _ rfl (.tmp 13) (.tmp 18) 58 rfl w.heap.size 5 i0 (.int .u8 0) 1 1 Try.underlying58 hi hz0 hz1 hz2 rfl (by decide) ao cur.length cap (bytV cur) rfl (Hown.out.alloc _) (some ⟨wr.heap.size, 0, none⟩) 1 1 (bytV [c]) rfl (fun h => by cases h) rfl (one_cell _ _ _ _ rfl) (bytV_one [c]) (by unfold maxLen; omega) (by omega) (by simp; omega) ?_))
        intro co c' w1 hown1 hgrow1 hco1
        have hb1 : Below w.heap.size w w1 := below_grown (Hb.out.alloc hbs _) (by simp; omega) hgrow1 (fun k hk => own_block Hown.out hk)
        have ho1 : OwnB w1 w.heap.size co c' (cur ++ [c]) := by unfold OwnB; rw [← bytV_append, List.length_append]; exact hown1
        have Hb1 := Lib.hid hb1
        have Ho1 := Lib.hid ho1
        clear hown1 hgrow1 hco1 hb1 ho1 hbm hb7
        go_wp2_with fail
        go_roundw
        case rel => exact ⟨q / 128, cur ++ [c], co, c', by simp, by simp, by omega, by simp; omega, Ho1, Hb1, by unfold Hid; rw [List.append_assoc]; rw [← Hfull.out, encN_big (n := q) (by omega) hq, ← Hc.out]; rfl⟩
        case measure => simp [intOf]; omega
      · obtain ⟨c, hc⟩ : ∃ c : UInt8, c = UInt8.ofNat q := ⟨_, rfl⟩
        have hcq : (q : Int) = (c.toNat : Int) := by rw [hc]; simp; omega
        have Hc := Lib.hid hc
        have Hcq := Lib.hid hcq
        clear hc hcq
        go_wp2_with (at_builtin; go_must (refine wpList_append_foot _ rfl (.tmp 22) (.tmp 25) 58 rfl w.heap.size 5 i0 (.int .u8 0) 1 1 Try.underlying58 hi hz0 hz1 hz2 rfl (by decide) ao cur.length cap (bytV cur) rfl (Hown.out.alloc _) (some ⟨wr.heap.size, 0, none⟩) 1 1 (bytV [c]) rfl (fun h => by cases h) rfl (one_cell _ _ _ _ Hcq.out) (bytV_one [c]) (by unfold maxLen; omega) (by omega) (by simp; omega) ?_))
        intro co c' w1 hown1 hgrow1 hco1
        have hb1 : Below w.heap.size w w1 := below_grown (Hb.out.alloc hbs _) (by simp; omega) hgrow1 (fun k hk => own_block Hown.out hk)
        have ho1 : OwnB w1 w.heap.size co c' (cur ++ [c]) := by unfold OwnB; rw [← bytV_append, List.length_append]; exact hown1
        have hcc : cur ++ [c] = encN u := by rw [← Hfull.out, encN_small (n := q) (by omega), ← Hc.out]
        rw [hcc] at ho1
        have hlen : cur.length + 1 = (encN u).length := by rw [← hcc]; simp
        have Hb1 := Lib.hid hb1
        have Ho1 := Lib.hid ho1
        have Hlen := Lib.hid hlen
        clear hown1 hgrow1 hco1 hb1 ho1 hcc hlen
        go_wp2_with fail
        go_ret
        exact ⟨co, c', by rw [← Hlen.out]; rfl, Ho1.out, Hb1.out⟩
  · have hue : u = 0 := by rw [hu]; unfold clampN; omega
    have Hue := Lib.hid hue
    clear hu hue hul
    go_enter Try.func58, Try.ntmps58
    go_wp2_with fail
    go_loopw [3, 4] (fun s3 s4 wr => ∃ (q : Nat) (cur : List UInt8) (ao : Option Addr) (cap : Nat), s3 = .int .u64 q ∧ s4 = .slice ao cur.length cap ∧ q ≤ 4611686018427387904 ∧ cur.length ≤ 10 ∧ Hid (OwnB wr w.heap.size ao cap cur) ∧ Hid (Below w.heap.size w wr) ∧ Hid (cur ++ encN q = encN u)) (fun s3 _ _ => (intOf s3).toNat)
    case atStart => exact ⟨u, [], none, 0, by rw [Hue.out] <;> rfl, rfl, Hul.out, by simp, ⟨rfl, .inl ⟨rfl, rfl⟩⟩, Below.refl _ _, rfl⟩
    case round =>
      clear Hue
      obtain ⟨q, cur, ao, cap, rfl, rfl, hq, hcl, Hown, Hb, Hfull⟩ := hrel
      have hbs := Hb.out.size
      have hfl := congrArg List.length Hfull.out
      rw [List.length_append] at hfl
      have hel := encN_length u
      by_cases h128 : (128 : Int) ≤ q
      · have hb7 := bits_and_seven q hq
        have hbm := bits_more7 q
        obtain ⟨c, hc⟩ : ∃ c : UInt8, c = UInt8.ofNat (q % 128 + 128) := ⟨_, rfl⟩
        rw [← hc] at hbm
        have Hc := Lib.hid hc
        clear hc
        have hcl2 : cur.length + 1 ≤ 10 := by
          have h1 := (encN_length q).2
          omega
        go_wp2_with (at_builtin; go_must (refine wpList_append_foot _ rfl (.tmp 13) (.tmp 18) 58 rfl w.heap.size 5 i0 (.int .u8 0) 1 1 Try.underlying58 hi hz0 hz1 hz2 rfl (by decide) ao cur.length cap (bytV cur) rfl (Hown.out.alloc _) (some ⟨wr.heap.size, 0, none⟩) 1 1 (bytV [c]) rfl (fun h => by cases h) rfl (one_cell _ _ _ _ rfl) (bytV_one [c]) (by unfold maxLen; omega) (by omega) (by simp; omega) ?_))
        intro co c' w1 hown1 hgrow1 hco1
        have hb1 : Below w.heap.size w w1 := below_grown (Hb.out.alloc hbs _) (by simp; omega) hgrow1 (fun k hk => own_block Hown.out hk)
        have ho1 : OwnB w1 w.heap.size co c' (cur ++ [c]) := by unfold OwnB; rw [← bytV_append, List.length_append]; exact hown1
        have Hb1 := Lib.hid hb1
        have Ho1 := Lib.hid ho1
        clear hown1 hgrow1 hco1 hb1 ho1 hbm hb7
        go_wp2_with fail
        go_roundw
        case rel => exact ⟨q / 128, cur ++ [c], co, c', by simp, by simp, by omega, by simp; omega, Ho1, Hb1, by unfold Hid; rw [List.append_assoc]; rw [← Hfull.out, encN_big (n := q) (by omega) hq, ← Hc.out]; rfl⟩
        case measure => simp [intOf]; omega
      · obtain ⟨c, hc⟩ : ∃ c : UInt8, c = UInt8.ofNat q := ⟨_, rfl⟩
        have hcq : (q : Int) = (c.toNat : Int) := by rw [hc]; simp; omega
        have Hc := Lib.hid hc
        have Hcq := Lib.hid hcq
        clear hc hcq
        go_wp2_with (at_builtin; go_must (refine wpList_append_foot _ rfl (.tmp 22) (.tmp 25) 58 rfl w.heap.size 5 i0 (.int .u8 0) 1 1 Try.underlying58 hi hz0 hz1 hz2 rfl (by decide) ao cur.length cap (bytV cur) rfl (Hown.out.alloc _) (some ⟨wr.heap.size, 0, none⟩) 1 1 (bytV [c]) rfl (fun h => by cases h) rfl (one_cell _ _ _ _ Hcq.out) (bytV_one [c]) (by unfold maxLen; omega) (by omega) (by simp; omega) ?_))
        intro co c' w1 hown1 hgrow1 hco1
        have hb1 : Below w.heap.size w w1 := below_grown (Hb.out.alloc hbs _) (by simp; omega) hgrow1 (fun k hk => own_block Hown.out hk)
        have ho1 : OwnB w1 w.heap.size co c' (cur ++ [c]) := by unfold OwnB; rw [← bytV_append, List.length_append]; exact hown1
        have hcc : cur ++ [c] = encN u := by rw [← Hfull.out, encN_small (n := q) (by omega), ← Hc.out]
        rw [hcc] at ho1
        have hlen : cur.length + 1 = (encN u).length := by rw [← hcc]; simp
        have Hb1 := Lib.hid hb1
        have Ho1 := Lib.hid ho1
        have Hlen := Lib.hid hlen
        clear hown1 hgrow1 hco1 hb1 ho1 hcc hlen
        go_wp2_with fail
        go_ret
        exact ⟨co, c', by rw [← Hlen.out]; rfl, Ho1.out, Hb1.out⟩

set_option maxHeartbeats 2000000 in
theorem refNums_any (ao : Option Addr) (cv : Nat) (vs : List Int) (w : World) (hrow : 0 < vs.length → ∃ b off, ao = some ⟨b, off, none⟩ ∧ b < w.heap.size ∧ IRow w b off vs) (hm : vs.length ≤ 1000000) :
    Calls Try.prog 57 #[.slice ao vs.length cv] w (FreshB w (encs vs)) := by
  obtain ⟨i0, hi, hz0, hz1, hz2⟩ := info_parts byteInfo
  have Hrow := Lib.hid hrow
  clear hrow
  go_enter Try.func57, Try.ntmps57
  go_wp2_with fail
  go_loopw [4, 3] (fun s4 s3 wr => ∃ (k : Nat) (ao : Option Addr) (cap : Nat), s4 = .int .i64 k ∧ s3 = .slice ao (encs (vs.take k)).length cap ∧ k ≤ vs.length ∧ Hid (OwnB wr w.heap.size ao cap (encs (vs.take k))) ∧ Hid (Below w.heap.size w wr)) (fun s4 _ _ => vs.length - (intOf s4).toNat)
  case atStart => exact ⟨0, none, 0, rfl, rfl, by omega, ⟨rfl, .inl ⟨rfl, rfl⟩⟩, Below.refl _ _⟩
  case round =>
    obtain ⟨k, bo, cap, rfl, rfl, hk, Hown, Hb⟩ := hrel
    have hbs := Hb.out.size
    by_cases hlt : (k : Int) < vs.length
    · obtain ⟨b, off, rfl, hb, hr⟩ := Hrow.out (by omega)
      obtain ⟨v, hv⟩ : ∃ v, v = vs[k]'(by omega) := ⟨_, rfl⟩
      have hcv := (Hb.out.cell (p := ⟨b, off + k, none⟩) hb).trans (hr k (by omega))
      rw [← hv] at hcv
      have Hv := Lib.hid hv
      clear hv hr
      have hl := encs_length (vs.take k)
      have hl2 : (vs.take k).length ≤ k := List.length_take_le _ _
      go_wp2_with fail
      refine (refNum_any v wr).mono ?_
      rintro e w1 ⟨co, cc, rfl, ho1, hb1⟩
      have hcl := (encN_length (clampN v)).1
      have hb1' := Hb.out.trans (hb1.mono hbs)
      have hs1 := hb1'.size
      have hown1 : OwnB w1 w.heap.size bo cap (encs (vs.take k)) := by
        refine ⟨Hown.out.1, ?_⟩
        rcases Hown.out.2 with h2 | ⟨g, c, cur, hv, hg, hh, r⟩
        · exact .inl h2
        · exact .inr ⟨g, c, cur, hv, hg, (hb1.block g (Array.getElem?_eq_some_iff.1 hh).1).trans hh, r⟩
      have Hown1 := Lib.hid hown1
      have Ho1 := Lib.hid ho1
      have Hb1 := Lib.hid hb1'
      clear hown1 ho1 hb1 hb1' Hown Hb
      go_wp2_with (at_builtin; go_must (refine wpList_append_foot _ rfl (.tmp 11) (.tmp 16) 58 rfl w.heap.size 5 i0 (.int .u8 0) 1 1 Try.underlying58 hi hz0 hz1 hz2 rfl (by decide) bo (encs (vs.take k)).length cap (bytV (encs (vs.take k))) rfl Hown1.out co (encN (clampN v)).length cc (bytV (encN (clampN v))) rfl Ho1.out.none (by rw [bytV_length, Nat.mul_one]) Ho1.out.at.cells (bytV_one _) (by unfold maxLen; omega) (by omega) hs1 ?_))
      intro xo c' w2 hown2 hgrow2 hco2
      have hb2 : Below w.heap.size w w2 := below_grown Hb1.out hs1 hgrow2 (fun j hj => own_block Hown1.out hj)
      have hen : encs (vs.take k) ++ encN (clampN v) = encs (vs.take (k + 1)) := by rw [encs_snoc vs k (by omega), Hv.out]
      have ho2 : OwnB w2 w.heap.size xo c' (encs (vs.take (k + 1))) := by unfold OwnB; rw [← hen, ← bytV_append, List.length_append]; exact hown2
      have hle2 : (encs (vs.take k)).length + (encN (clampN v)).length = (encs (vs.take (k + 1))).length := by rw [← hen, List.length_append]
      have Hb2 := Lib.hid hb2
      have Ho2 := Lib.hid ho2
      have Hle2 := Lib.hid hle2
      clear hown2 hgrow2 hco2 hb2 ho2 hen hle2
      go_wp2_with fail
      go_roundw
      case rel => exact ⟨k + 1, xo, c', by go_num, by rw [← Hle2.out], by omega, Ho2, Hb2⟩
      case measure => simp [intOf]; omega
    · go_wp2_with fail
      go_ret
      have ht : vs.take k = vs := List.take_of_length_le (by omega)
      have ho := Hown.out
      rw [ht] at ho
      exact ⟨bo, cap, by show Ending.returned (.slice bo (encs (vs.take k)).length cap) = _; rw [ht], ho, Hb.out⟩

set_option maxHeartbeats 2000000 in
theorem refBytes_any (ao : Option Addr) (cap : Nat) (l : List UInt8) (w : World) (h0 : ao = none → l.length = 0 ∧ cap = 0) (ha : BAt w ao l) (hm : l.length ≤ 1000000) :
    Calls Try.prog 59 #[.slice ao l.length cap] w (FreshB w (encRow l)) := by
  obtain ⟨i0, hi, hz0, hz1, hz2⟩ := info_parts byteInfo
  have H0 := Lib.hid h0
  have Ha := Lib.hid ha
  clear h0 ha
  have hcl : clampN (l.length : Int) = l.length := by unfold clampN; omega
  have hel := (encN_length l.length).1
  go_enter Try.func59, Try.ntmps59
  go_wp2_with fail
  refine (refNum_any (l.length : Int) w).mono ?_
  rw [hcl]
  clear hcl
  rintro e w1 ⟨co, cc, rfl, ho1, hb1⟩
  have hs1 := hb1.size
  have Ho1 := Lib.hid ho1
  have Hb1 := Lib.hid hb1
  clear ho1 hb1
  go_wp2_with (at_builtin; go_must (refine wpList_append_foot _ rfl (.tmp 5) (.tmp 6) 58 rfl w.heap.size 5 i0 (.int .u8 0) 1 1 Try.underlying58 hi hz0 hz1 hz2 rfl (by decide) co (encN l.length).length cc (bytV (encN l.length)) rfl Ho1.out ao l.length cap (bytV l) rfl H0.out (by rw [bytV_length, Nat.mul_one]) (Ha.out.below Hb1.out).cells (bytV_one _) (by unfold maxLen; omega) (by omega) hs1 ?_))
  intro xo c' w2 hown2 hgrow2 hco2
  have hb2 : Below w.heap.size w w2 := below_grown Hb1.out hs1 hgrow2 (fun j hj => own_block Ho1.out hj)
  have ho2 : OwnB w2 w.heap.size xo c' (encRow l) := by unfold OwnB encRow; rw [← bytV_append, List.length_append]; exact hown2
  have hle2 : (encN l.length).length + l.length = (encRow l).length := by unfold encRow; rw [List.length_append]
  have Hb2 := Lib.hid hb2
  have Ho2 := Lib.hid ho2
  have Hle2 := Lib.hid hle2
  clear hown2 hgrow2 hco2 hb2 ho2 hle2
  go_wp2_with fail
  go_ret
  exact ⟨xo, c', by rw [← Hle2.out]; rfl, Ho2.out, Hb2.out⟩
end Go.Proofs.Ytobnibdeimiinaa

/- Plain: what a Writer lays, a Reader takes. -/
namespace Go.Proofs.Ytobnibdeimiinaa

theorem numR_enc : ∀ (m n i u : Nat) (r : List UInt8), n < m → i < 9 → (0 < i → 0 < n) → u + n * 128 ^ i ≤ 4611686018427387904 → numR i u (encN n ++ r) = some (u + n * 128 ^ i, r)
  | 0, _, _, _, _, h, _, _, _ => by omega
  | m + 1, n, i, u, r, h, hi, h0, hle => by
    have hp : 0 < 128 ^ i := Nat.pow_pos (by omega)
    by_cases h128 : n < 128
    · rw [encN_small h128]
      simp only [List.cons_append, List.nil_append, numR]
      have hc : (UInt8.ofNat n).toNat = n := by simp; omega
      rw [if_neg, hc, if_pos h128, if_neg (by omega)]
      rintro (h1 | ⟨h1, h2⟩)
      · omega
      · have := congrArg UInt8.toNat h2
        rw [hc, UInt8.toNat_zero] at this
        have := h0 h1
        omega
    · have hi8 : i < 8 := by
        apply Nat.lt_of_not_le
        intro h8
        have h1 : 128 ^ 8 ≤ 128 ^ i := Nat.pow_le_pow_right (by omega) h8
        have h2 : 128 * 128 ^ 8 ≤ n * 128 ^ i := Nat.mul_le_mul (by omega) h1
        have h3 : (128 : Nat) * 128 ^ 8 = 9223372036854775808 := by decide
        omega
      have hn62 : n ≤ 4611686018427387904 := by
        have : n * 1 ≤ n * 128 ^ i := Nat.mul_le_mul_left _ hp
        omega
      rw [encN_big h128 hn62]
      simp only [List.cons_append, numR]
      have hc : (UInt8.ofNat (n % 128 + 128)).toNat = n % 128 + 128 := by simp; omega
      have hsum : u + n % 128 * 128 ^ i + n / 128 * 128 ^ (i + 1) = u + n * 128 ^ i := by
        have h1 : n / 128 * 128 ^ (i + 1) = n / 128 * 128 * 128 ^ i := by rw [Nat.pow_succ, Nat.mul_assoc, Nat.mul_comm 128]
        have h2 : n % 128 * 128 ^ i + n / 128 * 128 * 128 ^ i = n * 128 ^ i := by
          rw [← Nat.add_mul]; congr 1; omega
        omega
      rw [if_neg, hc, if_neg (by omega), show (n % 128 + 128) % 128 = n % 128 from by omega, numR_enc m (n / 128) (i + 1) _ r (by omega) (by omega) (by omega) (by omega), hsum]
      rintro (h1 | ⟨h1, h2⟩)
      · omega
      · have := congrArg UInt8.toNat h2
        rw [hc, UInt8.toNat_zero] at this
        omega
theorem numOf_enc (n : Nat) (r : List UInt8) (h : n ≤ 4611686018427387904) : numOf (encN n ++ r) = some (n, r) := by
  have := numR_enc (n + 1) n 0 0 r (by omega) (by omega) (by omega) (by omega)
  simpa [numOf] using this
theorem bytesOf_enc (l r : List UInt8) (h : l.length ≤ 4611686018427387904) : bytesOf (encRow l ++ r) = some (l, r) := by
  unfold bytesOf encRow
  rw [List.append_assoc, numOf_enc _ _ h]
  simp
theorem tookOf_enc (l r : List UInt8) (bad : Bool) (h : l.length ≤ 4611686018427387904) : tookOf (encRow l ++ r) bad = (l, r, bad) := by
  unfold tookOf
  rw [bytesOf_enc l r h]
end Go.Proofs.Ytobnibdeimiinaa

/- A Writer and a Reader as things that stay apart. -/
namespace Go.Proofs.Ytobnibdeimiinaa
open Go.RowKit Go.Joins
set_option maxRecDepth 20000

def thWr (p base : Nat) (l : List UInt8) (o : Option Nat) : Th where
  T w := WrAt w p base l o
  F := Foot p o
  stay h k hS := h.keeps k (hS _ (.inl rfl)) (fun g hg => hS g (.inr hg))
  lt h hx := by
    rcases hx with rfl | hx
    · exact h.lt
    · exact (h.own_lt _ hx).1
theorem RdAt.stay {w w' : World} {p g : Nat} {rest : List UInt8} {bad : Bool} {S : Nat → Prop} (h : RdAt w p g rest bad) (k : Keeps w w' S) (hp : ¬ S p) (hg : 0 < rest.length → ¬ S g) : RdAt w' p g rest bad := by
  obtain ⟨ao, cap, h1, h2, h3, h4, h5, h6⟩ := h
  refine ⟨ao, cap, (k.block p (lt_of_block h1) hp).trans h1, h2, h3, h4, h5, fun hl => ?_⟩
  obtain ⟨off, e, hlt, hr⟩ := h6 hl
  exact ⟨off, e, Nat.lt_of_lt_of_le hlt k.size, hr.keeps hlt k (hg hl)⟩
theorem RdAt.glt {w : World} {p g : Nat} {rest : List UInt8} {bad : Bool} (h : RdAt w p g rest bad) (hl : 0 < rest.length) : g < w.heap.size := by
  obtain ⟨ao, cap, -, -, -, -, -, h6⟩ := h
  obtain ⟨off, e, hlt, -⟩ := h6 hl
  exact hlt
def thRd (p g : Nat) (rest : List UInt8) (bad : Bool) : Th where
  T w := RdAt w p g rest bad
  F x := x = p ∨ (x = g ∧ 0 < rest.length)
  stay h k hS := h.stay k (hS _ (.inl rfl)) (fun hl => hS _ (.inr ⟨rfl, hl⟩))
  lt h hx := by
    rcases hx with rfl | ⟨rfl, hx⟩
    · exact h.lt
    · exact h.glt hx
theorem St.wrote {W w w' : World} {L : List Th} {p base : Nat} {l full : List UInt8} {o : Option Nat} (h : St W w (thWr p base l o :: L)) (hi : WInv w w' p base o full []) : ∃ o', St W w' (thWr p base full o' :: L) := by
  obtain ⟨o', h1, h2, h3⟩ := hi.done
  refine ⟨o', h.step h2 (thWr p base full o') h1 (fun x hx => ?_)⟩
  rcases hx with hx | hx
  · exact .inl (.inl hx)
  · rcases h3 x hx with h4 | h4
    · exact .inl (.inr h4)
    · exact .inr h4
theorem St.newWr {W w : World} {L : List Th} (h : St W w L) (n : Nat) (hn : n = w.heap.size) (base : Nat) : St W (w.alloc (.cells #[.slice none 0 0] 91)) (thWr n base [] none :: L) :=
  h.new (below_alloc _ _) _ (wr_new w base n hn) (fun x hx => by
    rcases hx with hx | hx
    · omega
    · cases hx)
theorem St.read {W w w' : World} {L : List Th} {p g : Nat} {rest rest' : List UInt8} {bad bad' : Bool} (h : St W w (thRd p g rest bad :: L)) (hr : RdAt w' p g rest' bad') (k : Keeps w w' (fun x => x = p)) (hl : rest'.length ≤ rest.length) : St W w' (thRd p g rest' bad' :: L) :=
  h.step (k.weak (fun _ _ h => .inl h)) _ hr (fun x hx => by
    rcases hx with hx | ⟨hx, h1⟩
    · exact .inl (.inl hx)
    · exact .inl (.inr ⟨hx, by omega⟩))
theorem St.readOwn {W w w' : World} {L : List Th} {p g : Nat} {rest rest' x : List UInt8} {bad bad' : Bool} {ao : Option Addr} {cap : Nat} (h : St W w (thRd p g rest bad :: L)) (hr : RdAt w' p g rest' bad') (k : Keeps w w' (fun x => x = p)) (hl : rest'.length ≤ rest.length) (ho : OwnB w' w.heap.size ao cap x) : St W w' (thOwn w.heap.size ao cap x :: thRd p g rest' bad' :: L) := by
  have h2 := h.read hr k hl
  refine ⟨h2.b, ho, fun y hy => ?_, fun u hu y hy huy => ?_, h2.t⟩
  · obtain ⟨a, rfl, rfl⟩ := hy
    exact Nat.le_trans h.b.size (own_lt ho a.block rfl).2
  · have hwy : w.heap.size ≤ y := by
      obtain ⟨a, rfl, rfl⟩ := hy
      exact (own_lt ho a.block rfl).2
    rcases List.mem_cons.1 hu with e | e
    · subst e
      have : (thRd p g rest bad).F y := by
        rcases huy with e | ⟨e, h1⟩
        · exact .inl e
        · exact .inr ⟨e, by omega⟩
      have := (h.t.lts _ (by simp) y this).1
      omega
    · have := (h.t.lts u (by simp [e]) y huy).1
      omega
theorem St.newRd {W w w' : World} {L : List Th} {p g : Nat} {rest : List UInt8} (h : St W w L) (hr : RdAt w' p g rest false) (hb : Below w.heap.size w w') (hp : w.heap.size ≤ p) (hg : w.heap.size ≤ g) : St W w' (thRd p g rest false :: L) :=
  h.new hb _ hr (fun x hx => by
    rcases hx with hx | ⟨hx, -⟩ <;> omega)
end Go.Proofs.Ytobnibdeimiinaa

/- The contract of the Reader's Nums: a number into each place. -/
namespace Go.Proofs.Ytobnibdeimiinaa
open Go.RowKit
set_option maxRecDepth 20000

/-- A number taken: what comes, what is left, whether it erred. -/
def numT (rest : List UInt8) (bad : Bool) : Nat × List UInt8 × Bool := match numOf rest with | none => (0, [], true) | some (n, r) => (n, r, bad)
/-- What is left, and whether it erred, behind k numbers; the k-th number. -/
def rdSt (rest : List UInt8) (bad : Bool) : Nat → List UInt8 × Bool
  | 0 => (rest, bad)
  | k + 1 => (numT (rdSt rest bad k).1 (rdSt rest bad k).2).2
def rdVal (rest : List UInt8) (bad : Bool) (k : Nat) : Nat := (numT (rdSt rest bad k).1 (rdSt rest bad k).2).1
theorem numT_le (rest : List UInt8) (bad : Bool) : (numT rest bad).2.1.length ≤ rest.length ∧ (numT rest bad).1 ≤ 4611686018427387904 := by
  unfold numT
  cases h : numOf rest with
  | none => simp
  | some o =>
    obtain ⟨n, r⟩ := o
    obtain ⟨h1, k, -, hk, e⟩ := numR_left rest 0 0 n r h
    refine ⟨?_, h1⟩
    simp only [e, List.length_drop]
    omega
theorem rdSt_le (rest : List UInt8) (bad : Bool) (k : Nat) : (rdSt rest bad k).1.length ≤ rest.length := by
  induction k with
  | zero => exact Nat.le_refl _
  | succ k ih => exact Nat.le_trans (numT_le _ _).1 ih
theorem rdnum_t (p g : Nat) (rest : List UInt8) (bad : Bool) (w : World) (h : RdAt w p g rest bad) (hm : rest.length ≤ 140737488351232) :
    Calls Try.prog 62 #[.pointer (some ⟨p, 0, none⟩)] w fun e w' => e = .returned (.int .i64 ((numT rest bad).1 : Nat)) ∧ RdAt w' p g (numT rest bad).2.1 (numT rest bad).2.2 ∧ Keeps w w' (fun x => x = p) := by
  refine (rdnum_any p g rest bad w h hm).mono ?_
  rintro e w' ⟨h1, h2, h3⟩
  unfold numT
  cases ho : numOf rest with
  | none => exact ⟨(h2 ho).1, (h2 ho).2, h3⟩
  | some o =>
    obtain ⟨n, r⟩ := o
    exact ⟨(h1 n r ho).1, (h1 n r ho).2, h3⟩
/-- The numbers laid into their places. -/
def setPs (w : World) (ps : List (Option Addr)) (val : Nat → Nat) : Nat → World
  | 0 => w
  | k + 1 => match ps[k]? with
    | some (some a) => (setPs w ps val k).setCell a (.int .i64 (val k : Nat))
    | _ => setPs w ps val k
theorem setPs_size (w : World) (ps : List (Option Addr)) (val : Nat → Nat) (k : Nat) : (setPs w ps val k).heap.size = w.heap.size := by
  induction k with
  | zero => rfl
  | succ k ih =>
    simp only [setPs]
    split
    · simpa [World.setCell] using ih
    · exact ih
theorem setPs_cell {w : World} {ps : List (Option Addr)} {val : Nat → Nat} {a : Addr} {v : Value} (h : w.cell? a = some v) (k : Nat) : ∃ v', (setPs w ps val k).cell? a = some v' := by
  induction k with
  | zero => exact ⟨v, h⟩
  | succ k ih =>
    obtain ⟨v', hv⟩ := ih
    simp only [setPs]
    split
    · exact cell?_setCell_some hv
    · exact ⟨v', hv⟩
theorem setPs_frozen (w : World) (ps : List (Option Addr)) (val : Nat → Nat) (a : Addr) (k : Nat) : (setPs w ps val k).frozen? a = w.frozen? a := by
  induction k with
  | zero => rfl
  | succ k ih =>
    simp only [setPs]
    split
    · rw [World.frozen?_setCell]; exact ih
    · exact ih
/-- All blocks but those of the places are as they were. -/
theorem setPs_keeps (w : World) (ps : List (Option Addr)) (val : Nat → Nat) (k : Nat) : Keeps w (setPs w ps val k) (fun x => ∃ a, some a ∈ ps ∧ a.block = x) := by
  induction k with
  | zero => exact Keeps.refl _ _
  | succ k ih =>
    simp only [setPs]
    split
    · rename_i a ha
      exact ih.trans (Keeps.set _ _ _) (fun _ h => h) (fun x _ hx => ⟨a, List.mem_of_getElem? ha, hx.symm⟩)
    · exact ih
theorem Keeps.both {a b : World} {S : Nat → Prop} (h : Keeps a b S) (p : Addr) (v : Value) : Keeps (a.setCell p v) (b.setCell p v) S :=
  ⟨h.os, h.tape, h.output, by simpa [World.setCell] using h.size, fun k hk hn => by
    simp only [World.setCell, Array.size_modify] at hk
    have := h.block k hk hn
    simp only [World.setCell, Array.getElem?_modify, this]⟩
set_option maxHeartbeats 2000000 in
theorem rdnums_ptrs (p g s sc : Nat) (rest : List UInt8) (bad : Bool) (ps : List (Option Addr)) (w : World) (h : RdAt w p g rest bad) (hm : rest.length ≤ 140737488351232) (hl : ps.length ≤ 1000)
    (hrow : ∀ i, (hi : i < ps.length) → w.cell? ⟨s, i, none⟩ = some (.pointer ps[i])) (hs : s < w.heap.size) (hsp : s ≠ p)
    (hps : ∀ a, some a ∈ ps → a.block ≠ p ∧ a.block ≠ s ∧ (0 < rest.length → a.block ≠ g) ∧ (∃ v, w.cell? a = some v) ∧ w.frozen? a = false) :
    Calls Try.prog 61 #[.pointer (some ⟨p, 0, none⟩), .slice (some ⟨s, 0, none⟩) ps.length sc] w fun e w' => e = .returned (.tuple #[]) ∧ RdAt w' p g (rdSt rest bad ps.length).1 (rdSt rest bad ps.length).2 ∧ Keeps (setPs w ps (rdVal rest bad) ps.length) w' (fun x => x = p) := by
  have Hrow := Lib.hid hrow
  have Hps := Lib.hid hps
  have H := Lib.hid h
  clear hrow hps h
  go_enter Try.func61, Try.ntmps61
  go_wp2_with fail
  go_loopw [9] (fun s9 wr => ∃ k : Nat, s9 = .int .i64 k ∧ k ≤ ps.length ∧ Hid (RdAt wr p g (rdSt rest bad k).1 (rdSt rest bad k).2) ∧ Hid (Keeps (setPs w ps (rdVal rest bad) k) wr (fun x => x = p))) (fun s9 _ => ps.length - (intOf s9).toNat)
  case atStart => exact ⟨0, rfl, by omega, H, Keeps.refl _ _⟩
  case round =>
    obtain ⟨k, rfl, hk, HR, HK⟩ := hrel
    clear H
    by_cases hlt : k < ps.length
    · obtain ⟨q, hq⟩ : ∃ q, q = ps[k] := ⟨_, rfl⟩
      have hmem : q ∈ ps := by rw [hq]; exact List.getElem_mem _
      have hat : ps[k]? = some q := by rw [hq]; exact List.getElem?_eq_getElem hlt
      have hrk : w.cell? ⟨s, k, none⟩ = some (.pointer q) := by rw [hq]; exact Hrow.out k hlt
      have hsS : ¬ ∃ a, some a ∈ ps ∧ a.block = s := fun ⟨a, ha, e⟩ => (Hps.out a ha).2.1 e
      have hc := ((HK.out.cell (p := ⟨s, k, none⟩) (by rw [setPs_size]; exact hs) hsp).trans ((setPs_keeps w ps (rdVal rest bad) k).cell (p := ⟨s, k, none⟩) hs hsS)).trans hrk
      have hrl := rdSt_le rest bad k
      have Hq := Lib.hid (⟨hmem, hat⟩ : _ ∧ _)
      have HsS := Lib.hid hsS
      obtain ⟨v, hv⟩ : ∃ v, v = rdVal rest bad k := ⟨_, rfl⟩
      have hcall := rdnum_t p g _ _ wr HR.out (by omega)
      rw [show (numT (rdSt rest bad k).1 (rdSt rest bad k).2).1 = v from hv.symm, show (numT (rdSt rest bad k).1 (rdSt rest bad k).2).2.1 = (rdSt rest bad (k + 1)).1 from rfl, show (numT (rdSt rest bad k).1 (rdSt rest bad k).2).2.2 = (rdSt rest bad (k + 1)).2 from rfl] at hcall
      have Hcall := Lib.hid hcall
      have Hv := Lib.hid hv
      clear hq hmem hat hrk hsS hcall hv
      go_wp2_with fail
      refine Hcall.out.mono ?_
      rintro e w1 ⟨rfl, hr1, hk1⟩
      have HR1 := Lib.hid hr1
      have HK1 := Lib.hid (HK.out.trans hk1 (fun _ h => h) (fun _ _ h => h))
      clear hr1 hk1 HR HK hc
      cases q with
      | none =>
        go_wp2_with fail
        go_roundw
        case rel => exact ⟨k + 1, by go_num, by omega, HR1, by have := HK1.out; simp only [Hid, setPs, Hq.out.2]; exact this⟩
        case measure => simp [intOf]; omega
      | some a =>
        obtain ⟨n1, n2, n3, ⟨v0, n4⟩, n5⟩ := Hps.out a Hq.out.1
        obtain ⟨v1, hc1⟩ := setPs_cell (ps := ps) (val := rdVal rest bad) n4 k
        have hlt1 : a.block < w.heap.size := lt_of_cellB n4
        have hc2 := (HK1.out.cell (p := a) (by rw [setPs_size]; exact hlt1) n1).trans hc1
        have hf2 := ((HK1.out.frozen (p := a) (by rw [setPs_size]; exact hlt1) n1).trans (setPs_frozen w ps (rdVal rest bad) a k)).trans n5
        have hrl1 := rdSt_le rest bad (k + 1)
        have N1 := Lib.hid (⟨n1, fun h => n3 (Nat.lt_of_lt_of_le h hrl1)⟩ : a.block ≠ p ∧ (0 < (rdSt rest bad (k + 1)).1.length → a.block ≠ g))
        clear n1 n2 n3 n4 n5 hc1 hrl1 hrl
        go_wp2_with fail
        go_roundw
        case rel => exact ⟨k + 1, by go_num, by omega, HR1.out.stay (Keeps.set _ _ _) (fun h => N1.out.1 h.symm) (fun hl h => N1.out.2 hl h.symm), by
          have := HK1.out.both a (.int .i64 (v : Nat))
          simp only [Hid, setPs, Hq.out.2, ← Hv.out]
          exact this⟩
        case measure => simp [intOf]; omega
    · obtain rfl : k = ps.length := by omega
      go_wp2_with fail
      go_end0
      exact ⟨rfl, HR.out, HK.out⟩
end Go.Proofs.Ytobnibdeimiinaa

/- Numbers and rows read, and back: each has one form. -/
namespace Go.Proofs.Ytobnibdeimiinaa
open Go.RowKit
set_option maxRecDepth 20000

theorem numR_back : ∀ (l : List UInt8) (i u n : Nat) (r : List UInt8), numR i u l = some (n, r) → u < 128 ^ i → ∃ m, n = u + m * 128 ^ i ∧ l = encN m ++ r ∧ (0 < i → 0 < m)
  | [], i, u, n, r, h, _ => by simp [numR] at h
  | c :: t, i, u, n, r, h, hu => by
    have hle := (numR_left (c :: t) i u n r h).1
    rw [numR] at h
    split at h
    · cases h
    · rename_i hc
      split at h
      · rename_i hlt
        split at h
        · cases h
        · simp only [Option.some.injEq, Prod.mk.injEq] at h
          obtain ⟨rfl, rfl⟩ := h
          refine ⟨c.toNat, rfl, ?_, fun hi => ?_⟩
          · rw [encN_small hlt]; simp
          · rcases Nat.eq_zero_or_pos c.toNat with h0 | h0
            · exact absurd (.inr ⟨hi, UInt8.toNat_inj.1 (by simpa using h0)⟩) hc
            · exact h0
      · rename_i hge
        have hu2 := digit_lt i u (c.toNat % 128) hu (Nat.mod_lt _ (by omega))
        obtain ⟨m, hn, ht, hm⟩ := numR_back t (i + 1) _ n r h hu2
        have hm := hm (by omega)
        have hlt := c.toNat_lt
        have hn2 : n = u + (c.toNat % 128 + 128 * m) * 128 ^ i := by
          rw [hn, Nat.pow_succ, Nat.add_mul, ← Nat.add_assoc]
          congr 1
          generalize 128 ^ i = q
          ac_rfl
        refine ⟨c.toNat % 128 + 128 * m, hn2, ?_, fun _ => by omega⟩
        have hbig : ¬ (c.toNat % 128 + 128 * m < 128) := by omega
        have hp : 0 < 128 ^ i := Nat.pow_pos (by omega)
        have hsz : c.toNat % 128 + 128 * m ≤ 4611686018427387904 := by
          have := Nat.le_mul_of_pos_right (c.toNat % 128 + 128 * m) hp
          omega
        rw [encN_big hbig hsz, show (c.toNat % 128 + 128 * m) % 128 + 128 = c.toNat by omega, show (c.toNat % 128 + 128 * m) / 128 = m by omega, ht]
        simp
theorem numT_back {rest : List UInt8} {bad : Bool} (h : (numT rest bad).2.2 = false) : bad = false ∧ rest = encN (numT rest bad).1 ++ (numT rest bad).2.1 := by
  unfold numT at h ⊢
  cases ho : numOf rest with
  | none => rw [ho] at h; simp at h
  | some o =>
    obtain ⟨n, r⟩ := o
    rw [ho] at h
    simp only at h ⊢
    obtain ⟨m, hn, hl, -⟩ := numR_back rest 0 0 n r ho (by simp)
    obtain rfl : n = m := by simpa using hn
    exact ⟨h, hl⟩
theorem tookOf_back {rest : List UInt8} {bad : Bool} (h : (tookOf rest bad).2.2 = false) : bad = false ∧ rest = encRow (tookOf rest bad).1 ++ (tookOf rest bad).2.1 := by
  unfold tookOf bytesOf at h ⊢
  cases ho : numOf rest with
  | none => rw [ho] at h; simp at h
  | some o =>
    obtain ⟨n, r⟩ := o
    rw [ho] at h
    obtain ⟨m, hn, hl, -⟩ := numR_back rest 0 0 n r ho (by simp)
    obtain rfl : n = m := by simpa using hn
    by_cases hc : n ≤ r.length
    · simp only [hc, if_true] at h ⊢
      refine ⟨h, ?_⟩
      unfold encRow
      rw [List.length_take, Nat.min_eq_left hc, List.append_assoc, List.take_append_drop]
      exact hl
    · simp only [hc, if_false] at h
      cases h
theorem rdSt_back {rest : List UInt8} {bad : Bool} {k : Nat} (h : (rdSt rest bad (k + 1)).2 = false) : (rdSt rest bad k).2 = false ∧ (rdSt rest bad k).1 = encN (rdVal rest bad k) ++ (rdSt rest bad (k + 1)).1 := numT_back h
theorem rdVal_le (rest : List UInt8) (bad : Bool) (k : Nat) : rdVal rest bad k ≤ 4611686018427387904 := (numT_le _ _).2
theorem numT_enc (n : Nat) (r : List UInt8) (bad : Bool) (h : n ≤ 4611686018427387904) : numT (encN n ++ r) bad = (n, r, bad) := by
  unfold numT; rw [numOf_enc n r h]
theorem rdSt_shift (rest : List UInt8) (bad : Bool) (k : Nat) : rdSt rest bad (k + 1) = rdSt (numT rest bad).2.1 (numT rest bad).2.2 k := by
  induction k with
  | zero => rfl
  | succ k ih => rw [rdSt, ih]; rfl
theorem rdVal_shift (rest : List UInt8) (bad : Bool) (k : Nat) : rdVal rest bad (k + 1) = rdVal (numT rest bad).2.1 (numT rest bad).2.2 k := by
  unfold rdVal; rw [rdSt_shift]
theorem rdSt_enc (n : Nat) (r : List UInt8) (bad : Bool) (k : Nat) (h : n ≤ 4611686018427387904) : rdSt (encN n ++ r) bad (k + 1) = rdSt r bad k := by rw [rdSt_shift, numT_enc n r bad h]
theorem rdVal_enc (n : Nat) (r : List UInt8) (bad : Bool) (k : Nat) (h : n ≤ 4611686018427387904) : rdVal (encN n ++ r) bad (k + 1) = rdVal r bad k := by rw [rdVal_shift, numT_enc n r bad h]
theorem rdVal_enc0 (n : Nat) (r : List UInt8) (bad : Bool) (h : n ≤ 4611686018427387904) : rdVal (encN n ++ r) bad 0 = n := by unfold rdVal; simp only [rdSt]; rw [numT_enc n r bad h]
end Go.Proofs.Ytobnibdeimiinaa

/- The Writer's methods, by the frame of things that stay apart. -/
namespace Go.Proofs.Ytobnibdeimiinaa
open Go.RowKit
set_option maxRecDepth 20000

def intV (l : List Int) : List Value := l.map (.int .i64)
theorem irow_obj {w : World} {n : Nat} {vs : List Int} {t : TypeId} {cur : Array Value} (h : w.heap[n]? = some (.cells cur t (0, 0))) (hc : cur = (intV vs).toArray) : IRow w n 0 vs := by
  subst hc
  intro i hi
  rw [(cells_of_obj h).1, Nat.zero_add]
  simp [intV, hi]
/-- Nums of numbers that are written out. -/
theorem St.nums {W w : World} {L : List Th} {p : Nat} {l : List UInt8} {o : Option Nat} (h : St W w (thWr p W.heap.size l o :: L)) (vs : List Int) (n k : Nat) (hn : n = w.heap.size) (hk : k = vs.length) (cur : Array Value) (hc : cur = (intV vs).toArray) (hm : l.length + 10 * vs.length ≤ 140737488351232) :
    Calls Try.prog 54 #[.pointer (some ⟨p, 0, none⟩), .slice (some ⟨n, 0, none⟩) k k] (w.alloc (.cells cur 3)) fun e w' => e = .returned (.tuple #[]) ∧ ∃ o', St W w' (thWr p W.heap.size (l ++ encs vs) o' :: L) := by
  subst hn hk
  have hw := h.head
  have hb := h.b.size
  have hg : St W (w.alloc (.cells cur 3)) (thWr p W.heap.size l o :: L) := h.grow (below_allocO _ _)
  refine (nums_some p W.heap.size l o w.heap.size 0 vs.length vs _ hg.head (irow_obj (heap_new w _) hc) (by simp) (fun e => by have := (show WrAt w p W.heap.size l o from hw).lt; omega) (fun e => by have := ((show WrAt w p W.heap.size l o from hw).own_lt _ e).1; omega) (by simp; omega) hm).mono ?_
  rintro e w' ⟨rfl, hi⟩
  exact ⟨rfl, hg.wrote hi⟩
/-- Rows that are written out. -/
theorem rs_lit {w : World} {n : Nat} {cur : Array Value} {t : TypeId} (h : w.heap[n]? = some (.cells cur t (0, 0))) (L : List RowR) (hc : cur.toList = L.map fun r => Value.slice r.ao r.bs.length r.cap) (D : Nat → Prop) (hD : D n) (hL : ∀ r ∈ L, r.bs.length ≤ r.cap ∧ r.cap ≤ 9223372036854775807 ∧ (r.ao = none → r.bs.length = 0 ∧ r.cap = 0) ∧ BIn w D r.ao r.bs) : RsAt w D (some ⟨n, 0, none⟩) L := by
  refine fun _ => ⟨n, 0, rfl, lt_of_block h, hD, fun i hi => ?_⟩
  obtain ⟨h1, h2, h3, h4⟩ := hL _ (List.getElem_mem hi)
  refine ⟨?_, h1, h2, h3, h4⟩
  rw [(cells_of_obj h).1, Nat.zero_add, ← Array.getElem?_toList, hc]
  simp [hi]
/-- Bytes of rows that are written out. -/
theorem St.rows {W w : World} {L : List Th} {p : Nat} {l : List UInt8} {o : Option Nat} (h : St W w (thWr p W.heap.size l o :: L)) (R : List RowR) (n k : Nat) (hn : n = w.heap.size) (hk : k = R.length) (cur : Array Value) (hc : cur.toList = R.map fun r => Value.slice r.ao r.bs.length r.cap)
    (hR : ∀ r ∈ R, r.bs.length ≤ r.cap ∧ r.cap ≤ 9223372036854775807 ∧ (r.ao = none → r.bs.length = 0 ∧ r.cap = 0) ∧ BAt w r.ao r.bs ∧ ∀ a, r.ao = some a → ¬ Foot p o a.block) (hm : l.length + 10 * R.length + (flatR R).length + 10 ≤ 140737488351232) :
    Calls Try.prog 55 #[.pointer (some ⟨p, 0, none⟩), .slice (some ⟨n, 0, none⟩) k k] (w.alloc (.cells cur 58)) fun e w' => e = .returned (.tuple #[]) ∧ ∃ o', St W w' (thWr p W.heap.size (l ++ encRows R) o' :: L) := by
  subst hn hk
  have hw : WrAt w p W.heap.size l o := h.head
  have hb := h.b.size
  have hg : St W (w.alloc (.cells cur 58)) (thWr p W.heap.size l o :: L) := h.grow (below_allocO _ _)
  have hnp : ¬ Foot p o w.heap.size := by
    rintro (e | e)
    · have := hw.lt; omega
    · have := (hw.own_lt _ e).1; omega
  have hrs := rs_lit (heap_new w (.cells cur 58)) R hc (fun x => x < (w.alloc (.cells cur 58)).heap.size ∧ ¬ Foot p o x) ⟨by simp, hnp⟩ (fun r hr => by
    obtain ⟨h1, h2, h3, h4, h5⟩ := hR r hr
    refine ⟨h1, h2, h3, fun hp => ?_⟩
    obtain ⟨b, off, e, hlt, hrow⟩ := h4 hp
    exact ⟨b, off, e, by simp; omega, ⟨by simp; omega, h5 _ e⟩, hrow.below hlt (below_allocO _ _)⟩)
  refine (wbytes_any p W.heap.size l o _ R.length R _ _ hg.head hrs (fun hx => hx.2 (.inl rfl)) (fun g hgo hx => hx.2 (.inr hgo)) (fun x hx => hx.1) (by simp; omega) (by omega)).mono ?_
  rintro e w' ⟨rfl, hi⟩
  exact ⟨rfl, hg.wrote hi⟩
end Go.Proofs.Ytobnibdeimiinaa

/- The document's Reader: contracts of Bad, Raw, Whole. -/
namespace Go.Proofs.Ytobnibdeimiinaa
open Go.RowKit
set_option maxRecDepth 20000

/-- The document's Reader: the block p holds what is left, and whether it erred (then nothing is left). -/
def RRAt (w : World) (p g : Nat) (rest : List UInt8) (bad : Bool) : Prop := (bad = true → rest = []) ∧ ∃ ao cap, w.heap[p]? = some (.cells #[.slice ao rest.length cap, .bool bad] 106 (0, 0)) ∧ rest.length ≤ cap ∧ cap ≤ 9223372036854775807 ∧ (ao = none → rest.length = 0 ∧ cap = 0) ∧ g ≠ p ∧ (0 < rest.length → ∃ off, ao = some ⟨g, off, none⟩ ∧ g < w.heap.size ∧ BRow w g off rest)
theorem RRAt.stay {w w' : World} {p g : Nat} {rest : List UInt8} {bad : Bool} {S : Nat → Prop} (h : RRAt w p g rest bad) (k : Keeps w w' S) (hp : ¬ S p) (hg : 0 < rest.length → ¬ S g) : RRAt w' p g rest bad := by
  obtain ⟨h0, ao, cap, h1, h2, h3, h4, h5, h6⟩ := h
  refine ⟨h0, ao, cap, (k.block p (lt_of_block h1) hp).trans h1, h2, h3, h4, h5, fun hl => ?_⟩
  obtain ⟨off, e, hlt, hr⟩ := h6 hl
  exact ⟨off, e, Nat.lt_of_lt_of_le hlt k.size, hr.keeps hlt k (hg hl)⟩
theorem RRAt.lt {w : World} {p g : Nat} {rest : List UInt8} {bad : Bool} (h : RRAt w p g rest bad) : p < w.heap.size := by
  obtain ⟨-, ao, cap, h1, -⟩ := h
  exact lt_of_block h1
theorem RRAt.glt {w : World} {p g : Nat} {rest : List UInt8} {bad : Bool} (h : RRAt w p g rest bad) (hl : 0 < rest.length) : g < w.heap.size := by
  obtain ⟨-, ao, cap, -, -, -, -, -, h6⟩ := h
  obtain ⟨off, e, hlt, -⟩ := h6 hl
  exact hlt
def thRR (p g : Nat) (rest : List UInt8) (bad : Bool) : Th where
  T w := RRAt w p g rest bad
  F x := x = p ∨ (x = g ∧ 0 < rest.length)
  stay h k hS := h.stay k (hS _ (.inl rfl)) (fun hl => hS _ (.inr ⟨rfl, hl⟩))
  lt h hx := by
    rcases hx with rfl | ⟨rfl, hx⟩
    · exact h.lt
    · exact h.glt hx
theorem rrbad_any (p g : Nat) (rest : List UInt8) (bad : Bool) (w : World) (h : RRAt w p g rest bad) :
    Calls Try.prog 102 #[.pointer (some ⟨p, 0, none⟩)] w fun e w' => e = .returned (.tuple #[]) ∧ RRAt w' p g [] true ∧ Keeps w w' (fun x => x = p) := by
  obtain ⟨-, ao, cap, hh, -, -, -, hgp, -⟩ := h
  obtain ⟨c0, c1, f0, f1⟩ := cell_of_two hh
  have Hh := Lib.hid hh
  clear hh
  go_enter Try.func102, Try.ntmps102
  go_wp2_with fail
  go_end0
  exact ⟨rfl, ⟨fun _ => rfl, none, 0, set_two_fst (set_two_snd Hh.out), Nat.le_refl _, by omega, fun _ => ⟨rfl, rfl⟩, hgp, fun h => by simp at h⟩, (Keeps.set w _ _).trans (Keeps.set _ _ _) (fun _ h => h) (fun _ _ h => h)⟩
theorem rrwhole_any (p g : Nat) (rest : List UInt8) (bad : Bool) (w : World) (h : RRAt w p g rest bad) :
    Calls Try.prog 70 #[.pointer (some ⟨p, 0, none⟩)] w fun e w' => e = .returned (.bool (!bad && rest.isEmpty)) ∧ w' = w := by
  obtain ⟨-, ao, cap, hh, -⟩ := h
  obtain ⟨c0, c1, f0, f1⟩ := cell_of_two hh
  clear hh
  cases bad
  · cases rest with
    | nil =>
      simp only [List.length_nil] at c0
      go_enter Try.func70, Try.ntmps70
      go_wp2_with fail
      go_ret
      exact ⟨rfl, rfl⟩
    | cons x r =>
      have hl : ¬ (((x :: r).length : Nat) : Int) = 0 := by simp; omega
      obtain ⟨n, hn⟩ : ∃ n, n = (x :: r).length := ⟨_, rfl⟩
      rw [← hn] at c0 hl
      clear hn
      go_enter Try.func70, Try.ntmps70
      go_wp2_with fail
      go_ret
      refine ⟨?_, rfl⟩
      have : ((n : Int) == 0) = false := by rw [beq_eq_false_iff_ne]; exact hl
      first | rfl | (show Ending.returned (.bool ((n : Int) == 0)) = _; rw [this]; rfl)
  · go_enter Try.func70, Try.ntmps70
    go_wp2_with fail
    go_ret
    exact ⟨rfl, rfl⟩
/-- What is left of the document's Reader behind a take of n. -/
theorem rr_cut {w w1 : World} {p g n cap : Nat} {rest : List UInt8} {ao ao' : Option Addr} {cap' : Nat} (hw : w1.heap[p]? = some (.cells #[.slice ao rest.length cap, .bool false] 106 (0, 0))) (hn : n ≤ rest.length) (hlc : rest.length ≤ cap) (hcm : cap ≤ 9223372036854775807) (hgp : g ≠ p)
    (hrow : 0 < rest.length → ∃ off, ao = some ⟨g, off, none⟩ ∧ g < w.heap.size ∧ BRow w g off rest) (hb : Below w.heap.size w w1) (hc : cap' = cap - n) (h0 : ao' = none → rest.length - n = 0 ∧ cap' = 0) (hao : n < rest.length → ao' = ao.map fun x => x.add n) :
    RRAt (w1.setCell ⟨p, 0, none⟩ (.slice ao' (rest.length - n) cap')) p g (rest.drop n) false := by
  have hln : rest.length - n = (rest.drop n).length := by rw [List.length_drop]
  rw [hln]
  refine ⟨fun h => (nomatch h), ao', cap', set_two_fst hw, by rw [List.length_drop]; omega, by omega, fun h => by rw [List.length_drop]; exact h0 h, hgp, fun hp => ?_⟩
  rw [List.length_drop] at hp
  obtain ⟨off, e, hlt, hr⟩ := hrow (by omega)
  refine ⟨off + n, by rw [hao (by omega), e]; simp only [Option.map_some, add_none], by simp only [World.setCell, Array.size_modify]; exact Nat.lt_of_lt_of_le hlt hb.size, fun i hi => ?_⟩
  rw [World.cell?_of_block (w := w1) (Below.heap_setCell _ _ _ _ hgp)]
  rw [List.length_drop] at hi
  have := (hr.below hlt hb) (n + i) (by omega)
  rw [List.getElem_drop, Nat.add_assoc]
  exact this
theorem rrraw_no (p g : Nat) (rest : List UInt8) (bad : Bool) (n : Int) (w : World) (h : RRAt w p g rest bad) (hn : n < 0 ∨ (rest.length : Int) < n) :
    Calls Try.prog 101 #[.pointer (some ⟨p, 0, none⟩), .int .i64 n] w fun e w' => e = .returned (.slice none 0 0) ∧ RRAt w' p g [] true ∧ Keeps w w' (fun x => x = p) := by
  have Hbad := Lib.hid (rrbad_any p g rest bad w h)
  obtain ⟨-, ao, cap, hh, -⟩ := h
  obtain ⟨c0, c1, f0, f1⟩ := cell_of_two hh
  clear hh
  by_cases h1 : n < 0
  all_goals
    go_enter Try.func101, Try.ntmps101
    go_wp2_with fail
    all_goals first | (exfalso; omega) | skip
    refine Hbad.out.mono ?_
    rintro e w1 ⟨rfl, hr, hk⟩
    have hr' := hr
    obtain ⟨-, bo, bc, hh1, -⟩ := hr'
    obtain ⟨d0, d1, -, -⟩ := cell_of_two hh1
    have Hr := Lib.hid hr
    clear hh1 hr
    go_wp2_with fail
    go_ret
    exact ⟨rfl, Hr.out, hk⟩
theorem rrraw_bad (p g : Nat) (w : World) (h : RRAt w p g [] true) :
    Calls Try.prog 101 #[.pointer (some ⟨p, 0, none⟩), .int .i64 0] w fun e w' => e = .returned (.slice none 0 0) ∧ w' = w := by
  obtain ⟨-, ao, cap, hh, -⟩ := h
  obtain ⟨c0, c1, f0, f1⟩ := cell_of_two hh
  simp only [List.length_nil] at c0
  clear hh
  go_enter Try.func101, Try.ntmps101
  go_wp2_with fail
  go_ret
  exact ⟨rfl, rfl⟩
set_option maxHeartbeats 2000000 in
theorem rrraw_yes (p g : Nat) (rest : List UInt8) (n : Nat) (w : World) (h : RRAt w p g rest false) (hn : n ≤ rest.length) (hm : rest.length ≤ 140737488351232) :
    Calls Try.prog 101 #[.pointer (some ⟨p, 0, none⟩), .int .i64 n] w fun e w' => ∃ ao cap, e = .returned (.slice ao n cap) ∧ OwnB w' w.heap.size ao cap (rest.take n) ∧ RRAt w' p g (rest.drop n) false ∧ Keeps w w' (fun x => x = p) := by
  obtain ⟨-, ao, cap, hh, hlc, hcm, hnone, hgp, hrow⟩ := h
  obtain ⟨c0, c1, f0, f1⟩ := cell_of_two hh
  have Hh := Lib.hid hh
  have Hnone := Lib.hid hnone
  have Hrow := Lib.hid hrow
  clear hh hnone hrow
  obtain ⟨i0, hi, hz0, hz1, hz2⟩ := info_parts byteInfo
  have h1 : ¬ (n : Int) < 0 := by omega
  have h2 : ¬ (rest.length : Int) < n := by omega
  have hl : (rest.take n).length = n := by rw [List.length_take, Nat.min_eq_left hn]
  have hat : BAt w ao (rest.take n) := fun hp => by
    obtain ⟨off, e, hlt, hr⟩ := Hrow.out (by omega)
    exact ⟨g, off, e, hlt, fun i hi => by rw [List.getElem_take]; exact hr i (by omega)⟩
  have hlt := lt_of_block Hh.out
  have Hat := Lib.hid hat
  have Hl := Lib.hid hl
  clear hat hl
  go_enter Try.func101, Try.ntmps101
  go_wp2_with (at_builtin; go_must (refine wpList_append_any _ rfl (.tmp 23) (.tmp 29) 58 rfl w.heap.size 5 i0 (.int .u8 0) 1 1 Try.underlying58 hi hz0 hz1 hz2 rfl (by decide) _ 0 [] rfl (owns_emptyAt _ w.heap.size rfl w.heap.size (Nat.le_refl _) 5 1) ao n cap (bytV (rest.take n)) rfl (fun h => by have := Hnone.out h; omega) (by rw [bytV_length, Hl.out, Nat.mul_one]) (Hat.out.below ((Below.refl _ _).alloc (Nat.le_refl _) _)).cells (bytV_one _) (by unfold maxLen; omega) (by omega) (by simp) ?_))
  intro v w1 hown hgrow
  have hb : Below w.heap.size w w1 := below_grown ((Below.refl _ _).alloc (Nat.le_refl _) _) (by simp) hgrow (fun k hk => by simp [Value.ownBlock] at hk; omega)
  obtain ⟨bo, c, hv, ho⟩ := owned_bytes (l := rest.take n) (by simpa using hown) (by rw [Hl.out])
  rw [Hl.out] at hv
  have hh1 : w1.heap[p]? = some (.cells #[.slice ao rest.length cap, .bool false] 106 (0, 0)) := (hb.block p (lt_of_block Hh.out)).trans Hh.out
  obtain ⟨d0, d1, e0, e1⟩ := cell_of_two hh1
  have Ho := Lib.hid ho
  have Hh1 := Lib.hid hh1
  have Hb := Lib.hid hb
  rw [hv]
  clear ho hh1 hb hown hgrow hv c0 c1 f0 f1
  go_wp2_with fail
  · go_ret
    have hrn : rest.length = n := by omega
    refine ⟨bo, c, rfl, own_set Ho.out _ _ (lt_of_block Hh.out), ?_, (Keeps.of_grown Hb.out (Nat.le_refl _) (fun _ => False)).trans (Keeps.set _ _ _) (fun _ h => h.elim) (fun _ _ h => h)⟩
    exact rr_cut Hh1.out hn hlc hcm hgp Hrow.out Hb.out (by omega) (fun _ => ⟨by omega, rfl⟩) (fun h => by omega)
  · go_ret
    refine ⟨bo, c, rfl, own_set Ho.out _ _ (lt_of_block Hh.out), ?_, (Keeps.of_grown Hb.out (Nat.le_refl _) (fun _ => False)).trans (Keeps.set _ _ _) (fun _ h => h.elim) (fun _ _ h => h)⟩
    exact rr_cut Hh1.out hn hlc hcm hgp Hrow.out Hb.out rfl (fun h => by
      rw [Option.map_eq_none_iff] at h
      have := Hnone.out h
      omega) (fun _ => rfl)
end Go.Proofs.Ytobnibdeimiinaa

/- The document's Reader.Num. -/
namespace Go.Proofs.Ytobnibdeimiinaa
open Go.RowKit
set_option maxRecDepth 20000

theorem rr_cells {w : World} {p g : Nat} {rest : List UInt8} {bad : Bool} (h : RRAt w p g rest bad) : w.cell? ⟨p, 1, none⟩ = some (.bool bad) := by
  obtain ⟨-, ao, cap, hh, -⟩ := h
  exact (cell_of_two hh).2.1
theorem bits_nine (u : Nat) (hu : u < 128 ^ 9) : bits BinOp.or IntKind.u64 (u : Int) 9223372036854775808 = ((u + 9223372036854775808 : Nat) : Int) := by
  have h9 : (128 : Nat) ^ 9 = 9223372036854775808 := by decide
  rw [show (9223372036854775808 : Int) = ((9223372036854775808 : Nat) : Int) from rfl, bits_or_u64_nat _ _ (by omega) (by omega)]
  congr 1
  rw [show (9223372036854775808 : Nat) = 2 ^ 63 * 1 from by decide, Nat.or_comm, ← Nat.two_pow_add_eq_or_of_lt (by omega)]
  omega

set_option maxRecDepth 40000 in
set_option maxHeartbeats 8000000 in
theorem rrnum_any (p g : Nat) (rest : List UInt8) (bad : Bool) (w : World) (h : RRAt w p g rest bad) (hm : rest.length ≤ 140737488351232) :
    Calls Try.prog 68 #[.pointer (some ⟨p, 0, none⟩)] w fun e w' => (∀ n r, numOf rest = some (n, r) → e = .returned (.int .i64 (n : Nat)) ∧ RRAt w' p g r bad) ∧ (numOf rest = none → e = .returned (.int .i64 0) ∧ RRAt w' p g [] true) ∧ Keeps w w' (fun x => x = p) := by
  cases bad with
  | true =>
    obtain rfl : rest = [] := h.1 rfl
    have H := Lib.hid h
    clear h
    go_enter Try.func68, Try.ntmps68
    go_wp2_with fail
    refine wp_loop_rounds 1 ?_
    rw [rounds_succ]
    go_wp2_with fail
    refine (rrraw_no p g [] true 1 w H.out (.inr (by simp))).mono ?_
    rintro e w1 ⟨rfl, hr1, hk1⟩
    have c1 := rr_cells hr1
    have Hr1 := Lib.hid hr1
    clear hr1
    go_wp2_with fail
    go_ret
    exact ⟨fun n r h => (nomatch h), fun _ => ⟨rfl, Hr1.out⟩, hk1⟩
  | false =>
    have H := Lib.hid h
    clear h
    go_enter Try.func68, Try.ntmps68
    go_wp2_with fail
    go_loopw [3, 4] (fun s3 s4 wr => ∃ k u : Nat, k ≤ rest.length ∧ k ≤ 9 ∧ s4 = .int .i64 k ∧ s3 = .int .u64 u ∧ u < 128 ^ k ∧ Hid (numR k u (rest.drop k) = numOf rest) ∧ Hid (RRAt wr p g (rest.drop k) false) ∧ Hid (Keeps w wr (fun x => x = p))) (fun _ s4 _ => 10 - (intOf s4).toNat)
    case atStart => exact ⟨0, 0, by omega, by omega, rfl, rfl, by decide, rfl, H, Keeps.refl _ _⟩
    case round =>
      clear H
      obtain ⟨k, u, hk, hk9, rfl, rfl, hu, hst, HR, HK⟩ := hrel
      have Hu := Lib.hid hu
      clear hu
      by_cases hlt : k < rest.length
      · obtain ⟨c, hc⟩ : ∃ c, c = rest[k] := ⟨_, rfl⟩
        have hdrop : rest.drop k = c :: rest.drop (k + 1) := by rw [hc]; exact List.drop_eq_getElem_cons hlt
        have hlen1 : (rest.drop k).length ≤ 140737488351232 := by rw [List.length_drop]; omega
        have Hdrop := Lib.hid hdrop
        have Hraw := Lib.hid (rrraw_yes p g (rest.drop k) 1 wr HR.out (by rw [List.length_drop]; omega) hlen1)
        clear hc hdrop hlen1
        go_wp2_with fail
        refine Hraw.out.mono ?_
        rintro e w1 ⟨xo, xc, rfl, hox, hr1, hk1⟩
        rw [Hdrop.out] at hox hr1
        simp only [List.take_succ_cons, List.take_zero, List.drop_succ_cons, List.drop_zero] at hox hr1
        obtain ⟨g2, rfl, -, -, hrow⟩ := hox.row (by simp)
        have hx0 : w1.cell? ⟨g2, 0, none⟩ = some (.int .u8 (c.toNat : Int)) := by
          have := hrow 0 (by simp)
          simpa using this
        have c1 := rr_cells hr1
        have HR1 := Lib.hid hr1
        have HK1 := Lib.hid (HK.out.trans hk1 (fun _ h => h) (fun _ _ h => h))
        have hc256 : (c.toNat : Int) < 256 := by have := c.toNat_lt; omega
        clear hox hr1 hrow hk1 Hraw HR HK
        by_cases h9 : k = 9
        · subst h9
          have Hno : Hid (numOf rest = none) := by
            have := hst.out
            rw [Hdrop.out] at this
            rw [Hid, ← this]
            simp only [numR]
            rw [if_pos (.inl (by omega))]
          clear hst
          by_cases h127 : (127 : Int) < c.toNat
          · (go_wp2_with fail); (refine (rrbad_any p g _ false _ HR1.out).mono ?_); (rintro e y9 ⟨rfl, hr9, hk9⟩); (have Hr9 := Lib.hid hr9); (have Hk9 := Lib.hid (HK1.out.trans hk9 (fun _ h => h) (fun _ _ h => h))); (clear hr9 hk9); (go_wp2_with fail); go_ret; exact ⟨fun n r h => (nomatch (Hno.out.symm.trans h)), fun _ => ⟨rfl, Hr9.out⟩, Hk9.out⟩
          · by_cases h1 : (1 : Int) < c.toNat
            · (go_wp2_with fail); (refine (rrbad_any p g _ false _ HR1.out).mono ?_); (rintro e y9 ⟨rfl, hr9, hk9⟩); (have Hr9 := Lib.hid hr9); (have Hk9 := Lib.hid (HK1.out.trans hk9 (fun _ h => h) (fun _ _ h => h))); (clear hr9 hk9); (go_wp2_with fail); go_ret; exact ⟨fun n r h => (nomatch (Hno.out.symm.trans h)), fun _ => ⟨rfl, Hr9.out⟩, Hk9.out⟩
            · by_cases hz : (c.toNat : Int) = 0
              · have hb7 : bits BinOp.and IntKind.u8 0 127 = 0 := by decide
                (go_wp2_with fail); (refine (rrbad_any p g _ false _ HR1.out).mono ?_); (rintro e y9 ⟨rfl, hr9, hk9⟩); (have Hr9 := Lib.hid hr9); (have Hk9 := Lib.hid (HK1.out.trans hk9 (fun _ h => h) (fun _ _ h => h))); (clear hr9 hk9); (go_wp2_with fail); go_ret; exact ⟨fun n r h => (nomatch (Hno.out.symm.trans h)), fun _ => ⟨rfl, Hr9.out⟩, Hk9.out⟩
              · have hone : (c.toNat : Int) = 1 := by omega
                have hb7 : bits BinOp.and IntKind.u8 1 127 = 1 := by decide
                obtain ⟨z, hb9, hz9⟩ : ∃ z : Nat, bits BinOp.or IntKind.u64 (u : Int) 9223372036854775808 = (z : Int) ∧ (4611686018427387904 : Int) < z := ⟨_, bits_nine u Hu.out, by omega⟩
                (go_wp2_with fail); (refine (rrbad_any p g _ false _ HR1.out).mono ?_); (rintro e y9 ⟨rfl, hr9, hk9⟩); (have Hr9 := Lib.hid hr9); (have Hk9 := Lib.hid (HK1.out.trans hk9 (fun _ h => h) (fun _ _ h => h))); (clear hr9 hk9); (go_wp2_with fail); go_ret; exact ⟨fun n r h => (nomatch (Hno.out.symm.trans h)), fun _ => ⟨rfl, Hr9.out⟩, Hk9.out⟩
        · have hk8 : k ≤ 8 := by omega
          have hk9i : ¬ (k : Int) = 9 := by omega
          have hbd := bits_digit k u c (by omega) Hu.out
          have hbs : bits BinOp.and IntKind.u8 (c.toNat : Int) 127 = (c.toNat : Int) % 128 := by rw [bits_seven]; omega
          obtain ⟨q, hq⟩ : ∃ q, q = u + c.toNat % 128 * 128 ^ k := ⟨_, rfl⟩
          rw [← hq] at hbd
          have Hq := Lib.hid hq
          clear hq
          by_cases hz : 0 < k ∧ c = 0
          · have Hno : Hid (numOf rest = none) := by
              have := hst.out
              rw [Hdrop.out] at this
              rw [Hid, ← this]
              simp only [numR]
              rw [if_pos (.inr hz)]
            obtain ⟨h0, hcz⟩ := hz
            have h0i : (0 : Int) < k := by omega
            have hc0 : (c.toNat : Int) = 0 := by rw [hcz]; rfl
            clear hcz
            have hb7 : bits BinOp.and IntKind.u8 0 127 = 0 := by decide
            clear hst hbs hbd
            (go_wp2_with fail); (refine (rrbad_any p g _ false _ HR1.out).mono ?_); (rintro e y9 ⟨rfl, hr9, hk9⟩); (have Hr9 := Lib.hid hr9); (have Hk9 := Lib.hid (HK1.out.trans hk9 (fun _ h => h) (fun _ _ h => h))); (clear hr9 hk9); (go_wp2_with fail); go_ret; exact ⟨fun n r h => (nomatch (Hno.out.symm.trans h)), fun _ => ⟨rfl, Hr9.out⟩, Hk9.out⟩
          · have hgo : ¬ (9 ≤ k ∨ (0 < k ∧ c = 0)) := by
              rintro (h | h)
              · omega
              · exact hz h
            have hstep : ¬ c.toNat < 128 → numR (k + 1) q (rest.drop (k + 1)) = numOf rest ∧ q < 128 ^ (k + 1) := fun h => by
              have h1 := hst.out
              rw [Hdrop.out] at h1
              simp only [numR] at h1
              rw [if_neg hgo, if_neg h, ← Hq.out] at h1
              exact ⟨h1, by rw [Hq.out]; exact digit_lt k u _ Hu.out (by omega)⟩
            have hend : c.toNat < 128 → numOf rest = if 4611686018427387904 < q then none else some (q, rest.drop (k + 1)) := fun h => by
              have h1 := hst.out
              rw [Hdrop.out] at h1
              simp only [numR] at h1
              rw [if_neg hgo, if_pos h] at h1
              rw [Hq.out, Nat.mod_eq_of_lt h]
              exact h1.symm
            have hc0 : 0 < k → ¬ (c.toNat : Int) = 0 := fun h e => hz ⟨h, UInt8.toNat_inj.1 (by rw [UInt8.toNat_zero]; omega)⟩
            have Hstep := Lib.hid hstep
            have Hend := Lib.hid hend
            clear hstep hend hgo hz hst
            by_cases h0 : (0 : Int) < k
            all_goals (try have hc0 := hc0 (by omega))
            all_goals (try have hceq : ((c.toNat : Int) == 0) = false := by rw [beq_eq_false_iff_ne]; exact hc0)
            all_goals by_cases h127 : (127 : Int) < c.toNat
            · go_wp2_with fail
              go_roundw
              case rel => exact ⟨k + 1, q, by omega, by omega, by go_num, rfl, (Hstep.out (by omega)).2, (Hstep.out (by omega)).1, HR1, HK1⟩
              case measure => simp [intOf]; omega
            · by_cases hbig : (4611686018427387904 : Int) < q
              · have Hno : Hid (numOf rest = none) := by rw [Hid, Hend.out (by omega), if_pos (by omega)]
                (go_wp2_with fail); (refine (rrbad_any p g _ false _ HR1.out).mono ?_); (rintro e y9 ⟨rfl, hr9, hk9⟩); (have Hr9 := Lib.hid hr9); (have Hk9 := Lib.hid (HK1.out.trans hk9 (fun _ h => h) (fun _ _ h => h))); (clear hr9 hk9); (go_wp2_with fail); go_ret; exact ⟨fun n r h => (nomatch (Hno.out.symm.trans h)), fun _ => ⟨rfl, Hr9.out⟩, Hk9.out⟩
              · have hy : numOf rest = some (q, rest.drop (k + 1)) := by rw [Hend.out (by omega), if_neg (by omega)]
                have Hy := Lib.hid hy
                clear hy
                (go_wp2_with fail)
                all_goals go_ret
                all_goals refine ⟨fun n r h => ?_, fun h => (nomatch (Hy.out.symm.trans h)), HK1.out⟩
                all_goals (rw [Hy.out] at h; simp only [Option.some.injEq, Prod.mk.injEq] at h; obtain ⟨rfl, rfl⟩ := h; exact ⟨rfl, HR1.out⟩)
            · go_wp2_with fail
              go_roundw
              case rel => exact ⟨k + 1, q, by omega, by omega, by go_num, rfl, (Hstep.out (by omega)).2, (Hstep.out (by omega)).1, HR1, HK1⟩
              case measure => simp [intOf]; omega
            · by_cases hbig : (4611686018427387904 : Int) < q
              · have Hno : Hid (numOf rest = none) := by rw [Hid, Hend.out (by omega), if_pos (by omega)]
                (go_wp2_with fail); (refine (rrbad_any p g _ false _ HR1.out).mono ?_); (rintro e y9 ⟨rfl, hr9, hk9⟩); (have Hr9 := Lib.hid hr9); (have Hk9 := Lib.hid (HK1.out.trans hk9 (fun _ h => h) (fun _ _ h => h))); (clear hr9 hk9); (go_wp2_with fail); go_ret; exact ⟨fun n r h => (nomatch (Hno.out.symm.trans h)), fun _ => ⟨rfl, Hr9.out⟩, Hk9.out⟩
              · have hy : numOf rest = some (q, rest.drop (k + 1)) := by rw [Hend.out (by omega), if_neg (by omega)]
                have Hy := Lib.hid hy
                clear hy
                (go_wp2_with fail)
                all_goals go_ret
                all_goals refine ⟨fun n r h => ?_, fun h => (nomatch (Hy.out.symm.trans h)), HK1.out⟩
                all_goals (rw [Hy.out] at h; simp only [Option.some.injEq, Prod.mk.injEq] at h; obtain ⟨rfl, rfl⟩ := h; exact ⟨rfl, HR1.out⟩)
      · have Hno : Hid (numOf rest = none) := by
          have := hst.out
          rw [List.drop_eq_nil_of_le (by omega)] at this
          rw [Hid, ← this]
          rfl
        have hr := HR.out
        rw [List.drop_eq_nil_of_le (by omega)] at hr
        have Hr := Lib.hid hr
        clear hr HR
        go_wp2_with fail
        refine (rrraw_no p g [] false 1 wr Hr.out (.inr (by simp))).mono ?_
        rintro e w1 ⟨rfl, hr1, hk1⟩
        have c1 := rr_cells hr1
        have Hr1 := Lib.hid hr1
        have Hk1 := Lib.hid (HK.out.trans hk1 (fun _ h => h) (fun _ _ h => h))
        clear hr1 hk1
        go_wp2_with fail
        go_ret
        exact ⟨fun n r h => (nomatch (Hno.out.symm.trans h)), fun _ => ⟨rfl, Hr1.out⟩, Hk1.out⟩
end Go.Proofs.Ytobnibdeimiinaa

/- The document's Reader.Bytes. -/
namespace Go.Proofs.Ytobnibdeimiinaa
open Go.RowKit
set_option maxRecDepth 20000

set_option maxHeartbeats 2000000 in
theorem rrbytes_any (p g : Nat) (rest : List UInt8) (bad : Bool) (w : World) (h : RRAt w p g rest bad) (hm : rest.length ≤ 140737488351232) :
    Calls Try.prog 69 #[.pointer (some ⟨p, 0, none⟩)] w fun e w' => ∃ x r' b' ao cap, (x, r', b') = tookOf rest bad ∧ e = .returned (.slice ao x.length cap) ∧ OwnB w' w.heap.size ao cap x ∧ RRAt w' p g r' b' ∧ Keeps w w' (fun x => x = p) := by
  have Hnum := Lib.hid (rrnum_any p g rest bad w h hm)
  have hb0 := h.1
  clear h
  have Htook : Hid (tookOf rest bad = match numOf rest with | none => ([], [], true) | some (n, r) => if n ≤ r.length then (r.take n, r.drop n, bad) else ([], [], true)) := by
    unfold Hid tookOf bytesOf
    cases numOf rest with
    | none => rfl
    | some o => obtain ⟨n, r⟩ := o; simp only; by_cases hc : n ≤ r.length <;> simp only [hc, if_true, if_false]
  have Hb0 := Lib.hid hb0
  clear hb0
  go_enter Try.func69, Try.ntmps69
  go_wp2_with fail
  refine Hnum.out.mono ?_
  rintro e w1 ⟨hy, hn, hk⟩
  have hs := hk.size
  cases ho : numOf rest with
  | none =>
    obtain ⟨rfl, hr⟩ := hn ho
    have htook := Htook.out
    rw [ho] at htook
    have Ht := Lib.hid htook
    have c1 := rr_cells hr
    have Hr := Lib.hid hr
    clear hy hn hr ho htook
    go_wp2_with fail
    go_ret
    exact ⟨[], [], true, none, 0, Ht.out.symm, rfl, own_nothing _ _, Hr.out, hk⟩
  | some o =>
    obtain ⟨n, r⟩ := o
    have hbf : bad = false := by
      cases bad with
      | false => rfl
      | true =>
        have := Hb0.out rfl
        subst this
        cases ho
    subst hbf
    obtain ⟨rfl, hr⟩ := hy n r ho
    obtain ⟨hl, hnle⟩ := numOf_left ho
    have htook := Htook.out
    rw [ho] at htook
    simp only at htook
    have c1 := rr_cells hr
    by_cases hnr : n ≤ r.length
    · rw [if_pos hnr] at htook
      have Ht := Lib.hid htook
      have Hraw := Lib.hid (rrraw_yes p g r n w1 hr hnr (by omega))
      clear hy hn hr ho htook
      go_wp2_with fail
      refine Hraw.out.mono ?_
      rintro e w2 ⟨ao, cap, rfl, hown, hr2, hk2⟩
      go_wp2_with fail
      go_ret
      refine ⟨r.take n, r.drop n, false, ao, cap, Ht.out.symm, ?_, own_weak hown hs, hr2, hk.trans hk2 (fun _ h => h) (fun _ _ h => h)⟩
      rw [List.length_take, Nat.min_eq_left hnr]; rfl
    · rw [if_neg hnr] at htook
      have Ht := Lib.hid htook
      have Hraw := Lib.hid (rrraw_no p g r false n w1 hr (.inr (by omega)))
      clear hy hn hr ho htook
      go_wp2_with fail
      refine Hraw.out.mono ?_
      rintro e w2 ⟨rfl, hr2, hk2⟩
      go_wp2_with fail
      go_ret
      exact ⟨[], [], true, none, 0, Ht.out.symm, rfl, own_nothing _ _, hr2, hk.trans hk2 (fun _ h => h) (fun _ _ h => h)⟩
end Go.Proofs.Ytobnibdeimiinaa

/- The document's Reader as a thing that stays apart; its contracts by the state behind k numbers. -/
namespace Go.Proofs.Ytobnibdeimiinaa
open Go.RowKit
set_option maxRecDepth 20000

theorem St.newRR {W w w' : World} {L : List Th} {p g : Nat} {rest : List UInt8} (h : St W w L) (hr : RRAt w' p g rest false) (hb : Below w.heap.size w w') (hp : w.heap.size ≤ p) (hg : w.heap.size ≤ g) : St W w' (thRR p g rest false :: L) :=
  h.new hb _ hr (fun x hx => by
    rcases hx with hx | ⟨hx, -⟩ <;> omega)
theorem St.readR {W w w' : World} {L : List Th} {p g : Nat} {rest rest' : List UInt8} {bad bad' : Bool} (h : St W w (thRR p g rest bad :: L)) (hr : RRAt w' p g rest' bad') (k : Keeps w w' (fun x => x = p)) (hl : rest'.length ≤ rest.length) : St W w' (thRR p g rest' bad' :: L) :=
  h.step (k.weak (fun _ _ h => .inl h)) _ hr (fun x hx => by
    rcases hx with hx | ⟨hx, h1⟩
    · exact .inl (.inl hx)
    · exact .inl (.inr ⟨hx, by omega⟩))
theorem St.readOwnR {W w w' : World} {L : List Th} {p g : Nat} {rest rest' x : List UInt8} {bad bad' : Bool} {ao : Option Addr} {cap : Nat} (h : St W w (thRR p g rest bad :: L)) (hr : RRAt w' p g rest' bad') (k : Keeps w w' (fun x => x = p)) (hl : rest'.length ≤ rest.length) (ho : OwnB w' w.heap.size ao cap x) : St W w' (thOwn w.heap.size ao cap x :: thRR p g rest' bad' :: L) := by
  have h2 := h.readR hr k hl
  refine ⟨h2.b, ho, fun y hy => ?_, fun u hu y hy huy => ?_, h2.t⟩
  · obtain ⟨a, rfl, rfl⟩ := hy
    exact Nat.le_trans h.b.size (own_lt ho a.block rfl).2
  · have hwy : w.heap.size ≤ y := by
      obtain ⟨a, rfl, rfl⟩ := hy
      exact (own_lt ho a.block rfl).2
    rcases List.mem_cons.1 hu with e | e
    · subst e
      have : (thRR p g rest bad).F y := by
        rcases huy with e | ⟨e, h1⟩
        · exact .inl e
        · exact .inr ⟨e, by omega⟩
      have := (h.t.lts _ (by simp) y this).1
      omega
    · have := (h.t.lts u (by simp [e]) y huy).1
      omega
theorem rr_new {w1 : World} {base c : Nat} {bo : Option Addr} {bs : List UInt8} (ho : OwnB w1 base bo c bs) (hb : base ≤ w1.heap.size) : ∃ g, RRAt (w1.alloc (.cells #[.slice bo bs.length c, .bool false] 106)) w1.heap.size g bs false ∧ base ≤ g := by
  by_cases hp : 0 < bs.length
  · obtain ⟨g, e, hbg, hlt, hr⟩ := ho.row hp
    exact ⟨g, ⟨fun h => (nomatch h), bo, c, heap_new _ _, ho.le.1, ho.le.2, ho.none, by omega, fun _ => ⟨0, e, by simp; omega, hr.below hlt ((Below.refl _ _).alloc (Nat.le_refl _) _)⟩⟩, hbg⟩
  · exact ⟨w1.heap.size + 1, ⟨fun h => (nomatch h), bo, c, heap_new _ _, ho.le.1, ho.le.2, ho.none, by omega, fun h => absurd h hp⟩, by omega⟩
theorem rrnum_k (p g : Nat) (rest : List UInt8) (bad : Bool) (k : Nat) (w : World) (h : RRAt w p g (rdSt rest bad k).1 (rdSt rest bad k).2) (hm : rest.length ≤ 140737488351232) :
    Calls Try.prog 68 #[.pointer (some ⟨p, 0, none⟩)] w fun e w' => e = .returned (.int .i64 (rdVal rest bad k : Nat)) ∧ RRAt w' p g (rdSt rest bad (k + 1)).1 (rdSt rest bad (k + 1)).2 ∧ Keeps w w' (fun x => x = p) := by
  refine (rrnum_any p g _ _ w h (Nat.le_trans (rdSt_le rest bad k) hm)).mono ?_
  rintro e w' ⟨h1, h2, h3⟩
  unfold rdVal
  simp only [rdSt]
  unfold numT
  cases ho : numOf (rdSt rest bad k).1 with
  | none => exact ⟨(h2 ho).1, (h2 ho).2, h3⟩
  | some o =>
    obtain ⟨n, r⟩ := o
    exact ⟨(h1 n r ho).1, (h1 n r ho).2, h3⟩
theorem rdnum_k (p g : Nat) (rest : List UInt8) (bad : Bool) (k : Nat) (w : World) (h : RdAt w p g (rdSt rest bad k).1 (rdSt rest bad k).2) (hm : rest.length ≤ 140737488351232) :
    Calls Try.prog 62 #[.pointer (some ⟨p, 0, none⟩)] w fun e w' => e = .returned (.int .i64 (rdVal rest bad k : Nat)) ∧ RdAt w' p g (rdSt rest bad (k + 1)).1 (rdSt rest bad (k + 1)).2 ∧ Keeps w w' (fun x => x = p) :=
  rdnum_t p g _ _ w h (Nat.le_trans (rdSt_le rest bad k) hm)
/-- So many bytes taken as they are. -/
def rawT (rest : List UInt8) (bad : Bool) (n : Int) : List UInt8 × List UInt8 × Bool := if 0 ≤ n ∧ n ≤ rest.length then (rest.take n.toNat, rest.drop n.toNat, bad) else ([], [], true)
theorem rawT_le (rest : List UInt8) (bad : Bool) (n : Int) : (rawT rest bad n).1.length ≤ rest.length ∧ (rawT rest bad n).2.1.length ≤ rest.length := by
  unfold rawT
  split
  · simp only [List.length_take, List.length_drop]; omega
  · simp
theorem rdraw_t (p g : Nat) (rest : List UInt8) (bad : Bool) (n : Int) (w : World) (h : RdAt w p g rest bad) (hm : rest.length ≤ 140737488351232) :
    Calls Try.prog 95 #[.pointer (some ⟨p, 0, none⟩), .int .i64 n] w fun e w' => ∃ ao cap, e = .returned (.slice ao (rawT rest bad n).1.length cap) ∧ OwnB w' w.heap.size ao cap (rawT rest bad n).1 ∧ RdAt w' p g (rawT rest bad n).2.1 (rawT rest bad n).2.2 ∧ Keeps w w' (fun x => x = p) := by
  by_cases hn : 0 ≤ n ∧ n ≤ rest.length
  · obtain ⟨k, rfl⟩ : ∃ k : Nat, n = k := ⟨n.toNat, by omega⟩
    simp only [rawT, if_pos hn, Int.toNat_natCast]
    refine (rdraw_yes p g rest bad k w h (by omega) hm).mono ?_
    rintro e w' ⟨ao, cap, rfl, ho, hr, hk⟩
    refine ⟨ao, cap, ?_, ho, hr, hk⟩
    rw [List.length_take, Nat.min_eq_left (by omega)]
  · simp only [rawT, if_neg hn]
    refine (rdraw_no p g rest bad n w h (by omega)).mono ?_
    rintro e w' ⟨rfl, hr, hk⟩
    exact ⟨none, 0, rfl, own_nothing _ _, hr, hk⟩
theorem rrraw_t (p g : Nat) (rest : List UInt8) (bad : Bool) (n : Int) (w : World) (h : RRAt w p g rest bad) (hm : rest.length ≤ 140737488351232) :
    Calls Try.prog 101 #[.pointer (some ⟨p, 0, none⟩), .int .i64 n] w fun e w' => ∃ ao cap, e = .returned (.slice ao (rawT rest bad n).1.length cap) ∧ OwnB w' w.heap.size ao cap (rawT rest bad n).1 ∧ RRAt w' p g (rawT rest bad n).2.1 (rawT rest bad n).2.2 ∧ Keeps w w' (fun x => x = p) := by
  by_cases hn : 0 ≤ n ∧ n ≤ rest.length
  · obtain ⟨k, rfl⟩ : ∃ k : Nat, n = k := ⟨n.toNat, by omega⟩
    simp only [rawT, if_pos hn, Int.toNat_natCast]
    cases bad with
    | true =>
      obtain rfl := h.1 rfl
      obtain rfl : k = 0 := by simpa using hn
      refine (rrraw_bad p g w h).mono ?_
      rintro e w' ⟨rfl, rfl⟩
      exact ⟨none, 0, rfl, own_nothing _ _, h, Keeps.refl _ _⟩
    | false =>
      refine (rrraw_yes p g rest k w h (by omega) hm).mono ?_
      rintro e w' ⟨ao, cap, rfl, ho, hr, hk⟩
      refine ⟨ao, cap, ?_, ho, hr, hk⟩
      rw [List.length_take, Nat.min_eq_left (by omega)]
  · simp only [rawT, if_neg hn]
    refine (rrraw_no p g rest bad n w h (by omega)).mono ?_
    rintro e w' ⟨rfl, hr, hk⟩
    exact ⟨none, 0, rfl, own_nothing _ _, hr, hk⟩
theorem tookOf_le {rest x r' : List UInt8} {bad b' : Bool} (h : (x, r', b') = tookOf rest bad) : x.length ≤ rest.length ∧ r'.length ≤ rest.length := by
  unfold tookOf bytesOf at h
  cases ho : numOf rest with
  | none => rw [ho] at h; simp at h; obtain ⟨rfl, rfl, -⟩ := h; simp
  | some o =>
    obtain ⟨n, r⟩ := o
    obtain ⟨hl, -⟩ := numOf_left ho
    rw [ho] at h
    simp only at h
    by_cases hc : n ≤ r.length
    · simp only [hc, if_true, Prod.mk.injEq] at h
      obtain ⟨rfl, rfl, -⟩ := h
      simp only [List.length_take, List.length_drop]; omega
    · simp only [hc, if_false, Prod.mk.injEq] at h
      obtain ⟨rfl, rfl, -⟩ := h
      simp
theorem quiet_left {P : Program} {f : FuncId} {args : Array Value} {w : World} {n : Nat} {v : Value}
    (h : Calls P f args (w.drewN n) fun e w' => e = .returned v ∧ w.drewN n = w') : Calls P f args (w.drewN n) fun e w'' => e = .returned v ∧ ∃ m, w'' = w.drewN m :=
  h.mono fun _ _ ⟨he, hm⟩ => ⟨he, n, hm.symm⟩
theorem rr_cell0 {w : World} {p g : Nat} {rest : List UInt8} {bad : Bool} (h : RRAt w p g rest bad) : ∃ ao cap, w.cell? ⟨p, 0, none⟩ = some (.slice ao rest.length cap) ∧ w.cell? ⟨p, 1, none⟩ = some (.bool bad) := by
  obtain ⟨-, ao, cap, hh, -⟩ := h
  exact ⟨ao, cap, (cell_of_two hh).1, (cell_of_two hh).2.1⟩
theorem whole_z (p g : Nat) (rest : List UInt8) (bad z : Bool) (w : World) (n : Nat) (hz : z = (!bad && rest.isEmpty)) (h : RdAt (w.drewN n) p g rest bad) (hm : rest.length ≤ 140737488351232) :
    Calls Try.prog 65 #[.pointer (some ⟨p, 0, none⟩)] (w.drewN n) fun e w'' => e = .returned (.bool z) ∧ ∃ m, w'' = w.drewN m := by
  subst hz
  exact quiet_left (whole_any p g rest bad _ h hm)
theorem rrwhole_z (p g : Nat) (rest : List UInt8) (bad z : Bool) (w : World) (n : Nat) (hz : z = (!bad && rest.isEmpty)) (h : RRAt (w.drewN n) p g rest bad) :
    Calls Try.prog 70 #[.pointer (some ⟨p, 0, none⟩)] (w.drewN n) fun e w'' => e = .returned (.bool z) ∧ ∃ m, w'' = w.drewN m := by
  subst hz
  exact Calls.quiet_of_same (rrwhole_any p g rest bad _ h)
end Go.Proofs.Ytobnibdeimiinaa

/- The Readers' methods, by the frame of things that stay apart. -/
namespace Go.Proofs.Ytobnibdeimiinaa
open Go.RowKit
set_option maxRecDepth 20000

theorem set_objF {w : World} {b o : Nat} {cur : Array Value} {t : TypeId} {fr : Nat × Nat} {v : Value} (h : w.heap[b]? = some (.cells cur t fr)) : (w.setCell ⟨b, o, none⟩ v).heap[b]? = some (.cells (cur.setIfInBounds o v) t fr) := by
  simp [World.setCell, Array.getElem?_modify, h]
theorem St.setObj {W w : World} {L : List Th} {b : Nat} {cur : Array Value} {t : TypeId} (h : St W w (thObj b (.cells cur t (0, 0)) :: L)) (o : Nat) (v : Value) : St W (w.setCell ⟨b, o, none⟩ v) (thObj b (.cells (cur.setIfInBounds o v) t (0, 0)) :: L) :=
  h.step (Keeps.set w ⟨b, o, none⟩ v) _ (set_objF h.head) (fun _ hx => .inl hx)
/-- Blocks of the call's own and what they hold. -/
abbrev Ob := Nat × Array Value × TypeId
def thOb (x : Ob) : Th := thObj x.1 (.cells x.2.1 x.2.2 (0, 0))
def putOb : List Ob → Nat → Nat → Value → List Ob
  | [], _, _, _ => []
  | x :: r, 0, o, v => (x.1, x.2.1.setIfInBounds o v, x.2.2) :: r
  | x :: r, i + 1, o, v => x :: putOb r i o v
def putObs (O : List Ob) (ps : List (Nat × Nat)) (val : Nat → Nat) : Nat → List Ob
  | 0 => O
  | k + 1 => match ps[k]? with
    | some q => putOb (putObs O ps val k) q.1 q.2 (.int .i64 (val k : Nat))
    | none => putObs O ps val k
def blk (O : List Ob) (i : Nat) : Nat := (O.map (·.1)).getD i 0
def adOf (O : List Ob) (q : Nat × Nat) : Option Addr := some ⟨blk O q.1, q.2, none⟩
theorem putOb_fst : ∀ (O : List Ob) (i o : Nat) (v : Value), (putOb O i o v).map (·.1) = O.map (·.1)
  | [], _, _, _ => rfl
  | _ :: _, 0, _, _ => rfl
  | x :: r, i + 1, o, v => by simp only [putOb, List.map_cons, putOb_fst r i o v]
theorem putObs_fst (O : List Ob) (ps : List (Nat × Nat)) (val : Nat → Nat) (k : Nat) : (putObs O ps val k).map (·.1) = O.map (·.1) := by
  induction k with
  | zero => rfl
  | succ k ih =>
    simp only [putObs]
    split
    · rw [putOb_fst, ih]
    · exact ih
theorem blk_mem {O : List Ob} {i : Nat} (h : i < O.length) : ∃ x ∈ O, x.1 = blk O i := by
  refine ⟨O[i], List.getElem_mem h, ?_⟩
  simp [blk, List.getD, h]
theorem putOb_heap : ∀ {O : List Ob} {w : World} (_ : (O.map (·.1)).Nodup) (_ : ∀ x ∈ O, w.heap[x.1]? = some (.cells x.2.1 x.2.2 (0, 0))) (i o : Nat) (v : Value) (_ : i < O.length), ∀ x ∈ putOb O i o v, (w.setCell ⟨blk O i, o, none⟩ v).heap[x.1]? = some (.cells x.2.1 x.2.2 (0, 0))
  | [], _, _, _, _, _, _, hi => by simp at hi
  | x :: r, w, hd, h, 0, o, v, _ => by
    intro y hy
    simp only [putOb, List.mem_cons] at hy
    rcases hy with rfl | hy
    · exact set_objF (h x (by simp))
    · have hne : y.1 ≠ x.1 := fun e => (List.nodup_cons.1 hd).1 (by show x.1 ∈ _; rw [← e]; exact List.mem_map_of_mem hy)
      exact (Below.heap_setCell _ _ _ _ hne).trans (h y (by simp [hy]))
  | x :: r, w, hd, h, i + 1, o, v, hi => by
    intro y hy
    have hi2 : i < r.length := by simpa using hi
    have hb : blk (x :: r) (i + 1) = blk r i := by simp [blk]
    rw [hb]
    simp only [putOb, List.mem_cons] at hy
    rcases hy with rfl | hy
    · have hne : y.1 ≠ blk r i := fun e => by
        obtain ⟨z, hz, e2⟩ := blk_mem hi2
        exact (List.nodup_cons.1 hd).1 (by show y.1 ∈ _; rw [e, ← e2]; exact List.mem_map_of_mem hz)
      exact (Below.heap_setCell _ _ _ _ hne).trans (h y (by simp))
    · exact putOb_heap (List.nodup_cons.1 hd).2 (fun z hz => h z (by simp [hz])) i o v hi2 y hy
theorem blk_fst {O O' : List Ob} (h : O.map (·.1) = O'.map (·.1)) (i : Nat) : blk O i = blk O' i := by unfold blk; rw [h]
theorem putObs_heap {O : List Ob} {w : World} (hd : (O.map (·.1)).Nodup) (h : ∀ x ∈ O, w.heap[x.1]? = some (.cells x.2.1 x.2.2 (0, 0))) (ps : List (Nat × Nat)) (hps : ∀ q ∈ ps, q.1 < O.length) (val : Nat → Nat) (k : Nat) : ∀ x ∈ putObs O ps val k, (setPs w (ps.map (adOf O)) val k).heap[x.1]? = some (.cells x.2.1 x.2.2 (0, 0)) := by
  induction k with
  | zero => exact h
  | succ k ih =>
    simp only [putObs, setPs, List.getElem?_map]
    cases hq : ps[k]? with
    | none => exact ih
    | some q =>
      simp only [Option.map_some, adOf]
      have hf := putObs_fst O ps val k
      rw [← blk_fst hf q.1]
      have hl := congrArg List.length hf
      simp only [List.length_map] at hl
      exact putOb_heap (by rw [hf]; exact hd) ih q.1 q.2 _ (by rw [hl]; exact hps q (List.mem_of_getElem? hq))
theorem Ths.obs {B : Nat} {w : World} : ∀ {O : List Ob} {L : List Th}, Ths B w (O.map thOb ++ L) → (O.map (·.1)).Nodup ∧ (∀ x ∈ O, w.heap[x.1]? = some (.cells x.2.1 x.2.2 (0, 0))) ∧ (∀ x ∈ O, B ≤ x.1) ∧ (∀ x ∈ O, ∀ u ∈ L, ¬ u.F x.1) ∧ Ths B w L
  | [], L, h => ⟨by simp, by simp, by simp, by simp, h⟩
  | x :: r, L, h => by
    obtain ⟨h1, h2, h3, h4⟩ := h
    obtain ⟨g1, g2, g3, g4, g5⟩ := Ths.obs (O := r) h4
    refine ⟨?_, ?_, ?_, ?_, g5⟩
    · rw [List.map_cons, List.nodup_cons]
      refine ⟨fun hm => ?_, g1⟩
      obtain ⟨y, hy, e⟩ := List.mem_map.1 hm
      exact h3 (thOb y) (List.mem_append.2 (.inl (List.mem_map.2 ⟨y, hy, rfl⟩))) x.1 rfl e.symm
    · intro y hy
      rcases List.mem_cons.1 hy with rfl | hy
      · exact h1
      · exact g2 y hy
    · intro y hy
      rcases List.mem_cons.1 hy with rfl | hy
      · exact h2 _ rfl
      · exact g3 y hy
    · intro y hy u hu
      rcases List.mem_cons.1 hy with rfl | hy
      · exact h3 u (by simp [hu]) y.1 rfl
      · exact g4 y hy u hu
theorem Ths.mkObs {B : Nat} {w : World} : ∀ {O : List Ob} {L : List Th}, (O.map (·.1)).Nodup → (∀ x ∈ O, w.heap[x.1]? = some (.cells x.2.1 x.2.2 (0, 0))) → (∀ x ∈ O, B ≤ x.1) → (∀ x ∈ O, ∀ u ∈ L, ¬ u.F x.1) → Ths B w L → Ths B w (O.map thOb ++ L)
  | [], _, _, _, _, _, h => h
  | x :: r, L, h1, h2, h3, h4, h5 => by
    rw [List.map_cons, List.nodup_cons] at h1
    refine ⟨h2 x (by simp), fun y e => ?_, fun u hu y e huy => ?_, Ths.mkObs h1.2 (fun y hy => h2 y (by simp [hy])) (fun y hy => h3 y (by simp [hy])) (fun y hy => h4 y (by simp [hy])) h5⟩
    · have e' : y = x.1 := e
      rw [e']; exact h3 x (by simp)
    · have e' : y = x.1 := e
      subst e'
      rcases List.mem_append.1 hu with hu | hu
      · obtain ⟨z, hz, rfl⟩ := List.mem_map.1 hu
        have : x.1 = z.1 := huy
        exact h1.1 (by rw [this]; exact List.mem_map_of_mem hz)
      · exact h4 x (by simp) u hu huy
theorem Keeps.join {a b : World} {S T : Nat → Prop} (h : Keeps a b S) (hS : ∀ x, S x → T x) : Keeps a b T := ⟨h.os, h.tape, h.output, h.size, fun k hk hn => h.block k hk fun s => hn (hS k s)⟩
set_option maxHeartbeats 1000000 in
/-- Nums into blocks of the call's own. -/
theorem St.readNums {W w : World} {L : List Th} {p g : Nat} {rest : List UInt8} {bad : Bool} {O : List Ob} (h : St W w (thRd p g rest bad :: (O.map thOb ++ L))) (hm : rest.length ≤ 140737488351232) (ps : List (Nat × Nat)) (hps : ∀ q ∈ ps, ∃ x v, O[q.1]? = some x ∧ x.2.1[q.2]? = some v) (s k : Nat) (hs : s = w.heap.size) (hk : k = ps.length) (hl : ps.length ≤ 1000) (cur : Array Value) (T : TypeId) (hc : cur = (ps.map fun q => Value.pointer (adOf O q)).toArray) :
    Calls Try.prog 61 #[.pointer (some ⟨p, 0, none⟩), .slice (some ⟨s, 0, none⟩) k k] (w.alloc (.cells cur T)) fun e w' => e = .returned (.tuple #[]) ∧ St W w' (thRd p g (rdSt rest bad k).1 (rdSt rest bad k).2 :: ((putObs O ps (rdVal rest bad) k).map thOb ++ L)) := by
  subst hs hk
  have hlt : ∀ q ∈ ps, q.1 < O.length := fun q hq => by
    obtain ⟨x, v, hx, -⟩ := hps q hq
    exact (List.getElem?_eq_some_iff.1 hx).1
  have hr : RdAt w p g rest bad := h.head
  have hp := hr.lt
  have hW := h.b.size
  have hg : St W (w.alloc (.cells cur T)) (thRd p g rest bad :: (O.map thOb ++ L)) := h.grow (below_allocO _ _)
  obtain ⟨o1, o2, o3, o4, o5⟩ := Ths.obs hg.t.2.2.2
  obtain ⟨-, p2, -, -, -⟩ := Ths.obs h.t.2.2.2
  have hdis := hg.t.2.2.1
  have hOp : ∀ x ∈ O, x.1 ≠ p ∧ (0 < rest.length → x.1 ≠ g) := fun x hx => by
    have hu : thOb x ∈ O.map thOb ++ L := List.mem_append.2 (.inl (List.mem_map.2 ⟨x, hx, rfl⟩))
    exact ⟨fun e => hdis _ hu p (.inl rfl) e.symm, fun hl e => hdis _ hu g (.inr ⟨rfl, hl⟩) e.symm⟩
  have hlen : (ps.map (adOf O)).length = ps.length := by simp
  have hcall := rdnums_ptrs p g w.heap.size ps.length rest bad (ps.map (adOf O)) (w.alloc (.cells cur T)) hg.head hm (by rw [hlen]; exact hl)
    (fun i hi => by
      rw [hlen] at hi
      rw [(cells_of_obj (heap_new w (.cells cur T))).1, hc]
      simp [hi])
    (by simp) (by omega)
    (fun a ha => by
      obtain ⟨q, hq, e⟩ := List.mem_map.1 ha
      simp only [adOf, Option.some.injEq] at e
      obtain ⟨x, v, hx, hv⟩ := hps q hq
      have hxm := List.mem_of_getElem? hx
      have hbx : blk O q.1 = x.1 := by simp [blk, List.getD, hx]
      have hab : a = ⟨x.1, q.2, none⟩ := by rw [← e, hbx]
      subst hab
      have hcx := cells_of_obj (o2 x hxm)
      refine ⟨(hOp x hxm).1, ?_, (hOp x hxm).2, ⟨v, by rw [hcx.1]; exact hv⟩, hcx.2 _⟩
      have := lt_of_block (p2 x hxm)
      simp only; omega)
  rw [hlen] at hcall
  refine hcall.mono ?_
  rintro e w' ⟨rfl, hr2, hk2⟩
  refine ⟨rfl, ?_⟩
  have hsp := setPs_keeps (w.alloc (.cells cur T)) (ps.map (adOf O)) (rdVal rest bad) ps.length
  have hfst := putObs_fst O ps (rdVal rest bad) ps.length
  have hmemO : ∀ x ∈ putObs O ps (rdVal rest bad) ps.length, ∃ y ∈ O, y.1 = x.1 := fun x hx => by
    have : x.1 ∈ (putObs O ps (rdVal rest bad) ps.length).map (·.1) := List.mem_map_of_mem hx
    rw [hfst] at this
    obtain ⟨y, hy, e⟩ := List.mem_map.1 this
    exact ⟨y, hy, e⟩
  have hK : Keeps (w.alloc (.cells cur T)) w' (fun x => x = p ∨ ∃ y ∈ O, y.1 = x) := by
    refine hsp.trans hk2 (fun x ⟨a, ha, e⟩ => ?_) (fun x _ e => .inl e)
    obtain ⟨q, hq, e2⟩ := List.mem_map.1 ha
    simp only [adOf, Option.some.injEq] at e2
    obtain ⟨y, hy, e3⟩ := blk_mem (hlt q hq)
    exact .inr ⟨y, hy, by rw [← e, ← e2]; exact e3⟩
  have hL5 : Ths W.heap.size w' L := o5.keep hK (fun t ht x hx hS => by
    rcases hS with rfl | ⟨y, hy, rfl⟩
    · exact hdis t (by simp [ht]) x (.inl rfl) hx
    · exact o4 y hy t ht hx)
  refine ⟨hg.b.trans (hK.below (fun x hx => ?_) hg.b.size), hr2, fun x hx => ?_, fun u hu x hx hux => ?_, Ths.mkObs (by rw [hfst]; exact o1) (fun x hx => ?_) (fun x hx => ?_) (fun x hx u hu => ?_) hL5⟩
  · rcases hx with rfl | ⟨y, hy, rfl⟩
    · exact hg.t.2.1 x (.inl rfl)
    · exact o3 y hy
  · rcases hx with rfl | ⟨rfl, hx⟩
    · exact hg.t.2.1 x (.inl rfl)
    · exact hg.t.2.1 x (.inr ⟨rfl, Nat.lt_of_lt_of_le hx (rdSt_le rest bad _)⟩)
  · have hx2 : (thRd p g rest bad).F x := by
      rcases hx with rfl | ⟨rfl, hx⟩
      · exact .inl rfl
      · exact .inr ⟨rfl, Nat.lt_of_lt_of_le hx (rdSt_le rest bad _)⟩
    rcases List.mem_append.1 hu with hu | hu
    · obtain ⟨z, hz, rfl⟩ := List.mem_map.1 hu
      obtain ⟨y, hy, e⟩ := hmemO z hz
      exact hdis (thOb y) (List.mem_append.2 (.inl (List.mem_map.2 ⟨y, hy, rfl⟩))) x hx2 (by
        have : x = z.1 := hux
        show x = y.1
        rw [e]; exact this)
    · exact hdis u (by simp [hu]) x hx2 hux
  · have h1 := putObs_heap o1 o2 ps hlt (rdVal rest bad) ps.length x hx
    obtain ⟨y, hy, e⟩ := hmemO x hx
    rw [hk2.block x.1 (lt_of_block h1) (by rw [← e]; exact (hOp y hy).1)]
    exact h1
  · obtain ⟨y, hy, e⟩ := hmemO x hx
    rw [← e]; exact o3 y hy
  · obtain ⟨y, hy, e⟩ := hmemO x hx
    rw [← e]; exact o4 y hy u hu
/-- A number. -/
theorem St.readNum {W w : World} {L : List Th} {p g : Nat} {rest : List UInt8} {bad : Bool} (h : St W w (thRd p g rest bad :: L)) (hm : rest.length ≤ 140737488351232) :
    Calls Try.prog 62 #[.pointer (some ⟨p, 0, none⟩)] w fun e w' => e = .returned (.int .i64 ((numT rest bad).1 : Nat)) ∧ St W w' (thRd p g (numT rest bad).2.1 (numT rest bad).2.2 :: L) := by
  refine (rdnum_t p g rest bad w h.head hm).mono ?_
  rintro e w' ⟨rfl, hr, hk⟩
  exact ⟨rfl, h.read hr hk (numT_le _ _).1⟩
/-- A row of bytes. -/
theorem St.readBytes {W w : World} {L : List Th} {p g : Nat} {rest : List UInt8} {bad : Bool} (h : St W w (thRd p g rest bad :: L)) (hm : rest.length ≤ 140737488351232) :
    Calls Try.prog 64 #[.pointer (some ⟨p, 0, none⟩)] w fun e w' => ∃ ao cap, e = .returned (.slice ao (tookOf rest bad).1.length cap) ∧ OwnB w' w.heap.size ao cap (tookOf rest bad).1 ∧ St W w' (thRd p g (tookOf rest bad).2.1 (tookOf rest bad).2.2 :: L) := by
  refine (rdbytes_any p g rest bad w h.head hm).mono ?_
  rintro e w' ⟨x, r', b', ao, cap, ht, rfl, ho, hr, hk⟩
  rw [← ht]
  exact ⟨ao, cap, rfl, ho, h.read hr hk (tookOf_le ht).2⟩
/-- The document's Reader: a number. -/
theorem St.readNumR {W w : World} {L : List Th} {p g : Nat} {rest : List UInt8} {bad : Bool} (h : St W w (thRR p g rest bad :: L)) (hm : rest.length ≤ 140737488351232) :
    Calls Try.prog 68 #[.pointer (some ⟨p, 0, none⟩)] w fun e w' => e = .returned (.int .i64 ((numT rest bad).1 : Nat)) ∧ St W w' (thRR p g (numT rest bad).2.1 (numT rest bad).2.2 :: L) := by
  refine (rrnum_k p g rest bad 0 w h.head hm).mono ?_
  rintro e w' ⟨rfl, hr, hk⟩
  exact ⟨rfl, h.readR hr hk (numT_le _ _).1⟩
theorem St.readBytesR {W w : World} {L : List Th} {p g : Nat} {rest : List UInt8} {bad : Bool} (h : St W w (thRR p g rest bad :: L)) (hm : rest.length ≤ 140737488351232) :
    Calls Try.prog 69 #[.pointer (some ⟨p, 0, none⟩)] w fun e w' => ∃ ao cap, e = .returned (.slice ao (tookOf rest bad).1.length cap) ∧ OwnB w' w.heap.size ao cap (tookOf rest bad).1 ∧ St W w' (thRR p g (tookOf rest bad).2.1 (tookOf rest bad).2.2 :: L) := by
  refine (rrbytes_any p g rest bad w h.head hm).mono ?_
  rintro e w' ⟨x, r', b', ao, cap, ht, rfl, ho, hr, hk⟩
  rw [← ht]
  exact ⟨ao, cap, rfl, ho, h.readR hr hk (tookOf_le ht).2⟩
end Go.Proofs.Ytobnibdeimiinaa

/- Small lemmas: calls and appends at a region's step, the document's Nums, cells of blocks of the call's own, bytes as a string. -/
namespace Go.Proofs.Ytobnibdeimiinaa
open Go.RowKit
set_option maxRecDepth 20000

theorem own_growO {w w' : World} {base : Nat} {ao : Option Addr} {cap : Nat} {l : List UInt8} (h : OwnB w base ao cap l) (b : Below w.heap.size w w') : OwnB w' base ao cap l := by
  refine ⟨h.1, ?_⟩
  rcases h.2 with h2 | ⟨g, c, cur, hv, hg, hh, r⟩
  · exact .inl h2
  · exact .inr ⟨g, c, cur, hv, hg, (b.block g (Array.getElem?_eq_some_iff.1 hh).1).trans hh, r⟩
theorem at_go {P : Program} {ops : Array Oper} {o : Oper} {a : Act} {w : World} {K : Act → World → Prop} {Q : Exit → Act → World → Prop} {E : Prop} (f : FuncId) (xs : Array Operand) (ts : Array TypeId) (_ : o.op = Op.call { callee := Callee.value (Operand.func f), args := xs, argTypes := ts }) (h : if Region.wanted o (yielded ops a.tmps) = true then Oper.wp P o a w K Q else E) : if Region.wanted o (yielded ops a.tmps) = true then Oper.wp P o a w K Q else E := h
theorem at_app {P : Program} {ops : Array Oper} {o : Oper} {a : Act} {w : World} {K : Act → World → Prop} {Q : Exit → Act → World → Prop} {E : Prop} (xs : Array Operand) (ts : Array TypeId) (_ : o.op = Op.call { callee := Callee.builtin Builtin.append, args := xs, argTypes := ts }) (h : if Region.wanted o (yielded ops a.tmps) = true then Oper.wp P o a w K Q else E) : if Region.wanted o (yielded ops a.tmps) = true then Oper.wp P o a w K Q else E := h
theorem bstep {a b c : World} (h : Below a.heap.size a b) (k : Below b.heap.size b c) : Below a.heap.size a c := h.trans (k.mono h.size)
theorem refNums_lit (vs : List Int) (w : World) (n k : Nat) (cur : Array Value) (hn : n = w.heap.size) (hk : k = vs.length) (hc : cur = (intV vs).toArray) (hm : vs.length ≤ 1000000) :
    Calls Try.prog 57 #[.slice (some ⟨n, 0, none⟩) k k] (w.alloc (.cells cur 3)) fun e w' => ∃ ao cap, e = .returned (.slice ao (encs vs).length cap) ∧ OwnB w' w.heap.size ao cap (encs vs) ∧ Below w.heap.size w w' := by
  subst hn hk
  refine (refNums_any (some ⟨w.heap.size, 0, none⟩) vs.length vs _ (fun _ => ⟨w.heap.size, 0, rfl, by simp, irow_obj (heap_new w _) hc⟩) hm).mono ?_
  rintro e w' ⟨ao, cap, rfl, ho, hb⟩
  exact ⟨ao, cap, rfl, own_weak ho (by simp), (below_allocO w _).trans (hb.mono (by simp))⟩
theorem refNums_eq (vs : List Int) (w : World) (n k : Nat) (cur : Array Value) (hn : n = w.heap.size) (hk : k = vs.length) (hc : cur = (intV vs).toArray) (hm : vs.length ≤ 1000000) (X : List UInt8) (hX : encs vs = X) :
    Calls Try.prog 57 #[.slice (some ⟨n, 0, none⟩) k k] (w.alloc (.cells cur 3)) (FreshB w X) := by
  subst hX; exact refNums_lit vs w n k cur hn hk hc hm
theorem refNums_in (vs : List Int) (w : World) (n k : Nat) (cur : Array Value) (hh : w.heap[n]? = some (.cells cur 3 (0, 0))) (hk : k = vs.length) (hc : cur = (intV vs).toArray) (hm : vs.length ≤ 1000000) (X : List UInt8) (hX : encs vs = X) :
    Calls Try.prog 57 #[.slice (some ⟨n, 0, none⟩) k k] w (FreshB w X) := by
  subst hk hX
  exact refNums_any (some ⟨n, 0, none⟩) vs.length vs _ (fun _ => ⟨n, 0, rfl, lt_of_block hh, irow_obj hh hc⟩) hm
theorem St.cellsN {W w : World} {L : List Th} (h : St W w L) (i : Nat) {b : Nat} {cur : Array Value} {t : TypeId} (hi : L[i]? = some (thObj b (.cells cur t (0, 0)))) : b < w.heap.size ∧ (∀ j, w.cell? ⟨b, j, none⟩ = cur[j]?) ∧ ∀ j, w.frozen? ⟨b, j, none⟩ = false := h.cells (List.mem_of_getElem? hi)
theorem etaN (t : Nat × List UInt8 × Bool) : t = (t.1, t.2.1, t.2.2) := rfl
theorem rd_step (l : List UInt8) (b : Bool) (k j : Nat) (hj : j = k + 1) : numT (rdSt l b k).1 (rdSt l b k).2 = (rdVal l b k, (rdSt l b j).1, (rdSt l b j).2) := by subst hj; exact etaN _
/-- A slice's bytes as a string. -/
theorem conv_str {w : World} {ao : Option Addr} {l : List UInt8} (h : BAt w ao l) (c : Nat) : (convert 58 9 (.slice ao l.length c)).run Try.prog w = .ok (.string ⟨l.toArray⟩) w := by
  by_cases hp : 0 < l.length
  · obtain ⟨b, off, rfl, -, hr⟩ := h hp
    have := run_convert_bytes_arg (P := Try.prog) w 58 5 Try.underlying58 Try.underlying5 b off l.length c (l.map fun c => (c.toNat : Int)) (by simp) (fun i hi => by
      rw [hr i hi]; simp [List.getD, hi]) 9 Try.underlying9
    rw [this]
    congr 2
    simp [strOfNums, Function.comp_def]
  · have : l = [] := List.length_eq_zero_iff.1 (by omega)
    subst this
    exact run_convert_bytes_zero w 58 5 Try.underlying58 Try.underlying5 ao c 9 Try.underlying9
end Go.Proofs.Ytobnibdeimiinaa

/- The document's Reader of bytes that came in, as a thing that stays apart. -/
namespace Go.Proofs.Ytobnibdeimiinaa
open Go.RowKit
set_option maxRecDepth 20000

/-- The document's Reader p of bytes that lie in the memory of old, at block g. -/
def thRO (W : World) (p g : Nat) (rest : List UInt8) (bad : Bool) : Th where
  T w := (bad = true → rest = []) ∧ ∃ ao cap, w.heap[p]? = some (.cells #[.slice ao rest.length cap, .bool bad] 106 (0, 0)) ∧ rest.length ≤ cap ∧ cap ≤ 9223372036854775807 ∧ (ao = none → rest.length = 0 ∧ cap = 0) ∧ g ≠ p ∧ (0 < rest.length → ∃ off, ao = some ⟨g, off, none⟩ ∧ g < W.heap.size ∧ BRow W g off rest)
  F x := x = p
  stay h k hS := by
    obtain ⟨h0, ao, cap, h1, r⟩ := h
    exact ⟨h0, ao, cap, (k.block p (lt_of_block h1) (hS p rfl)).trans h1, r⟩
  lt h e := by
    obtain ⟨h0, ao, cap, h1, r⟩ := h
    exact e ▸ lt_of_block h1
theorem RO.rr {W w : World} {p g : Nat} {rest : List UInt8} {bad : Bool} (h : (thRO W p g rest bad).T w) (b : Below W.heap.size W w) : RRAt w p g rest bad := by
  obtain ⟨h0, ao, cap, h1, h2, h3, h4, h5, h6⟩ := h
  refine ⟨h0, ao, cap, h1, h2, h3, h4, h5, fun hl => ?_⟩
  obtain ⟨off, e, hg, hr⟩ := h6 hl
  exact ⟨off, e, Nat.lt_of_lt_of_le hg b.size, hr.below hg b⟩
theorem RO.of {W w : World} {p g : Nat} {rest : List UInt8} {bad : Bool} (h : RRAt w p g rest bad) (b : Below W.heap.size W w) (hg : 0 < rest.length → g < W.heap.size) : (thRO W p g rest bad).T w := by
  obtain ⟨h0, ao, cap, h1, h2, h3, h4, h5, h6⟩ := h
  refine ⟨h0, ao, cap, h1, h2, h3, h4, h5, fun hl => ?_⟩
  obtain ⟨off, e, -, hr⟩ := h6 hl
  exact ⟨off, e, hg hl, fun i hi => (b.cell (p := ⟨g, _, none⟩) (hg hl)).symm.trans (hr i hi)⟩
theorem RO.old {W w : World} {p g : Nat} {rest : List UInt8} {bad : Bool} (h : (thRO W p g rest bad).T w) (hl : 0 < rest.length) : g < W.heap.size := by
  obtain ⟨h0, ao, cap, h1, h2, h3, h4, h5, h6⟩ := h
  obtain ⟨off, e, hg, hr⟩ := h6 hl
  exact hg
/-- It is made. -/
theorem St.newRO {W w : World} {L : List Th} (h : St W w L) (n : Nat) (hn : n = w.heap.size) (ao : Option Addr) (cap : Nat) (l : List UInt8) (hlc : l.length ≤ cap) (hcm : cap ≤ 9223372036854775807) (h0 : ao = none → l.length = 0 ∧ cap = 0) (ha : BAt W ao l) :
    ∃ g, St W (w.alloc (.cells #[.slice ao l.length cap, .bool false] 106)) (thRO W n g l false :: L) := by
  subst hn
  have hW := h.b.size
  have key : ∀ g, g ≠ w.heap.size → (0 < l.length → ∃ off, ao = some ⟨g, off, none⟩ ∧ g < W.heap.size ∧ BRow W g off l) → St W (w.alloc (.cells #[.slice ao l.length cap, .bool false] 106)) (thRO W w.heap.size g l false :: L) := fun g hg hl =>
    h.new (below_allocO _ _) (thRO W w.heap.size g l false) ⟨fun e => (nomatch e), ao, cap, heap_new w _, hlc, hcm, h0, hg, hl⟩ (fun x hx => by have hx : x = w.heap.size := hx; rw [hx]; exact Nat.le_refl _)
  by_cases hp : 0 < l.length
  · obtain ⟨b, off, e, hb, hr⟩ := ha hp
    exact ⟨b, key b (by omega) (fun _ => ⟨off, e, hb, hr⟩)⟩
  · exact ⟨w.heap.size + 1, key _ (by omega) (fun h => absurd h hp)⟩
theorem St.stepRO {W w w' : World} {L : List Th} {p g : Nat} {rest rest' : List UInt8} {bad bad' : Bool} (h : St W w (thRO W p g rest bad :: L)) (hr : RRAt w' p g rest' bad') (k : Keeps w w' (fun x => x = p)) (hl : rest'.length ≤ rest.length) : St W w' (thRO W p g rest' bad' :: L) := by
  have hb : Below W.heap.size W w' := h.b.trans (k.below (fun x hx => by rw [hx]; exact h.t.2.1 p rfl) h.b.size)
  exact h.step k _ (RO.of hr hb (fun hp => RO.old h.head (by omega))) (fun x hx => .inl hx)
/-- A number. -/
theorem St.readNumO {W w : World} {L : List Th} {p g : Nat} {rest : List UInt8} {bad : Bool} (h : St W w (thRO W p g rest bad :: L)) (hm : rest.length ≤ 140737488351232) :
    Calls Try.prog 68 #[.pointer (some ⟨p, 0, none⟩)] w fun e w' => e = .returned (.int .i64 ((numT rest bad).1 : Nat)) ∧ St W w' (thRO W p g (numT rest bad).2.1 (numT rest bad).2.2 :: L) := by
  refine (rrnum_k p g rest bad 0 w (RO.rr h.head h.b) hm).mono ?_
  rintro e w' ⟨rfl, hr, hk⟩
  exact ⟨rfl, h.stepRO hr hk (numT_le _ _).1⟩
theorem St.readBytesO {W w : World} {L : List Th} {p g : Nat} {rest : List UInt8} {bad : Bool} (h : St W w (thRO W p g rest bad :: L)) (hm : rest.length ≤ 140737488351232) :
    Calls Try.prog 69 #[.pointer (some ⟨p, 0, none⟩)] w fun e w' => ∃ ao cap, e = .returned (.slice ao (tookOf rest bad).1.length cap) ∧ OwnB w' w.heap.size ao cap (tookOf rest bad).1 ∧ St W w' (thRO W p g (tookOf rest bad).2.1 (tookOf rest bad).2.2 :: L) := by
  refine (rrbytes_any p g rest bad w (RO.rr h.head h.b) hm).mono ?_
  rintro e w' ⟨x, r', b', ao, cap, ht, rfl, ho, hr, hk⟩
  rw [← ht]
  exact ⟨ao, cap, rfl, ho, h.stepRO hr hk (tookOf_le ht).2⟩
theorem St.wholeO {W w : World} {L : List Th} {p g : Nat} {rest : List UInt8} {bad : Bool} (h : St W w (thRO W p g rest bad :: L)) :
    Calls Try.prog 70 #[.pointer (some ⟨p, 0, none⟩)] w fun e w' => e = .returned (.bool (!bad && rest.isEmpty)) ∧ w' = w := rrwhole_any p g rest bad w (RO.rr h.head h.b)
end Go.Proofs.Ytobnibdeimiinaa

/- Texts as bytes. -/
namespace Go.Proofs.Ytobnibdeimiinaa
open Go.RowKit
set_option maxRecDepth 20000

/-- A text's bytes, with their number ahead. -/
def encS (s : ByteArray) : List UInt8 := encRow s.data.toList
theorem conv_bytes (w : World) (s : ByteArray) : (convert 9 58 (.string s)).run Try.prog w = .ok (.slice (some ⟨w.heap.size, 0, none⟩) s.size (grownCap w s.size 0 5)) (Lib.bytesWorld w 5 s) :=
  Lib.run_convert_string_bytes w 9 58 5 s Try.underlying9 Try.underlying58 Try.underlying5
theorem bytesWorld_below (w : World) (s : ByteArray) : Below w.heap.size w (Lib.bytesWorld w 5 s) :=
  ⟨rfl, rfl, rfl, by rw [Lib.bytesWorld_size]; omega, fun k hk => Lib.bytesWorld_at_old w _ s k hk⟩
theorem bytesWorld_bat (w : World) (s : ByteArray) : BAt (Lib.bytesWorld w 5 s) (some ⟨w.heap.size, 0, none⟩) s.data.toList := fun _ => by
  refine ⟨w.heap.size, 0, rfl, by rw [Lib.bytesWorld_size]; omega, fun i hi => ?_⟩
  have hs : i < s.size := by simpa using hi
  rw [Nat.zero_add, Lib.bytesWorld_cell w _ s i hs]
  simp [List.getD, List.getElem?_eq_getElem hi]
@[go_sem] theorem bytesWorld_sz (w : World) (s : ByteArray) : (Lib.bytesWorld w 5 s).heap.size = w.heap.size + 1 := Lib.bytesWorld_size w _ s
@[go_sem] theorem bytesWorld_old (w : World) (s : ByteArray) (b o : Nat) (h : b < w.heap.size) : (Lib.bytesWorld w 5 s).cell? ⟨b, o, none⟩ = w.cell? ⟨b, o, none⟩ := (bytesWorld_below w s).cell (p := ⟨b, o, none⟩) h
theorem data_of {s t : ByteArray} : s.toList = t.toList ↔ s.data.toList = t.data.toList := by
  rw [ByteArray.toList_eq, ByteArray.toList_eq]
theorem size_nil {s : ByteArray} (h : s.toList = []) : s.size = 0 := by
  rw [ByteArray.toList_eq] at h
  have h2 := congrArg List.length h
  rw [Array.length_toList] at h2
  exact h2
theorem srow_ok {w w' : World} (s : ByteArray) (hs : s.size ≤ 1000000) (p : Nat) (o : Option Nat) (g : Nat) (hg : g = w.heap.size) (hp : p < w.heap.size) (ho : ∀ x, o = some x → x < w.heap.size) (hb : Below (Lib.bytesWorld w 5 s).heap.size (Lib.bytesWorld w 5 s) w') :
    s.data.toList.length ≤ grownCap w s.size 0 5 ∧ grownCap w s.size 0 5 ≤ 9223372036854775807 ∧ (some (⟨g, 0, none⟩ : Addr) = none → s.data.toList.length = 0 ∧ grownCap w s.size 0 5 = 0) ∧ BAt w' (some ⟨g, 0, none⟩) s.data.toList ∧ ∀ a, some (⟨g, 0, none⟩ : Addr) = some a → ¬ Foot p o a.block := by
  subst hg
  have h1 : s.data.toList.length = s.size := by rw [Array.length_toList]; rfl
  have h2 := grownCap_le_maxLen w s.size 0 5 (by unfold maxLen; omega)
  unfold maxLen at h2
  refine ⟨by rw [h1]; exact grownCap_ge w s.size 0 _, by omega, (fun h => by cases h), (bytesWorld_bat w s).below hb, fun a ha => ?_⟩
  cases ha
  rintro (e | e)
  · simp only at e; omega
  · have := ho _ e; simp only at this; omega
theorem bat_at (w : World) (s : ByteArray) (n : Nat) (hn : n = w.heap.size) : BAt (Lib.bytesWorld w 5 s) (some ⟨n, 0, none⟩) s.data.toList := by subst hn; exact bytesWorld_bat w s
/-- The document's Bytes of a text's bytes. -/
theorem refBytes_str (s : ByteArray) (g cap : Nat) (w : World) (ha : BAt w (some ⟨g, 0, none⟩) s.data.toList) (hm : s.data.toList.length ≤ 1000000) :
    Calls Try.prog 59 #[.slice (some ⟨g, 0, none⟩) s.size cap] w (FreshB w (encS s)) :=
  refBytes_any (some ⟨g, 0, none⟩) cap s.data.toList w (fun h => (nomatch h)) ha hm
theorem encS_length (s : ByteArray) : (encS s).length ≤ s.size + 10 := by
  have := (encN_length s.data.toList.length).1
  simp only [encS, encRow, List.length_append, Array.length_toList, ByteArray.size] at this ⊢
  omega
/-- Bytes of one text that is made bytes for it. -/
theorem St.text1 {W w : World} {L : List Th} {p : Nat} {l : List UInt8} {o : Option Nat} (h : St W w (thWr p W.heap.size l o :: L)) (s : ByteArray) (hs : s.size ≤ 1000000) (n : Nat) (hn : n = w.heap.size + 1) (m : Nat) (hmn : m = w.heap.size) (hm : l.length + s.size + 40 ≤ 140737488351232) :
    Calls Try.prog 55 #[.pointer (some ⟨p, 0, none⟩), .slice (some ⟨n, 0, none⟩) 1 1] ((Lib.bytesWorld w 5 s).alloc (.cells #[.slice (some ⟨m, 0, none⟩) s.size (grownCap w s.size 0 5)] 58)) fun e w' => e = .returned (.tuple #[]) ∧ ∃ o', St W w' (thWr p W.heap.size (l ++ encS s) o' :: L) := by
  subst hmn
  have hwr : WrAt w p W.heap.size l o := h.head
  have hp2 := hwr.lt
  have ho2 : ∀ x, o = some x → x < w.heap.size := fun x hx => (hwr.own_lt x hx).1
  have z1 := bytesWorld_sz w s
  have S4 := h.grow (bytesWorld_below w s)
  refine (S4.rows [⟨some ⟨w.heap.size, 0, none⟩, grownCap w s.size 0 5, s.data.toList⟩] n 1 (by omega) rfl _ rfl (fun r hr => ?_) ?_).mono ?_
  · obtain rfl := List.mem_singleton.1 hr
    exact srow_ok s hs _ _ _ rfl hp2 ho2 (Below.refl _ _)
  · simp only [flatR, List.flatMap_cons, List.flatMap_nil, List.length_cons, List.length_nil, List.append_nil, Array.length_toList]
    simp only [ByteArray.size] at hm
    omega
  · rintro e w' ⟨rfl, o', hS⟩
    refine ⟨rfl, o', ?_⟩
    simp only [encRows, List.flatMap_cons, List.flatMap_nil, List.append_nil] at hS
    exact hS
/-- Bytes of two texts. -/
theorem St.text2 {W w : World} {L : List Th} {p : Nat} {l : List UInt8} {o : Option Nat} (h : St W w (thWr p W.heap.size l o :: L)) (s t : ByteArray) (hs : s.size ≤ 1000000) (ht : t.size ≤ 1000000) (n : Nat) (hn : n = w.heap.size + 1 + 1) (m m2 : Nat) (hmn : m = w.heap.size) (hmn2 : m2 = w.heap.size + 1) (hm : l.length + s.size + t.size + 40 ≤ 140737488351232) :
    Calls Try.prog 55 #[.pointer (some ⟨p, 0, none⟩), .slice (some ⟨n, 0, none⟩) 2 2] ((Lib.bytesWorld (Lib.bytesWorld w 5 s) 5 t).alloc (.cells #[.slice (some ⟨m, 0, none⟩) s.size (grownCap w s.size 0 5), .slice (some ⟨m2, 0, none⟩) t.size (grownCap (Lib.bytesWorld w 5 s) t.size 0 5)] 58)) fun e w' => e = .returned (.tuple #[]) ∧ ∃ o', St W w' (thWr p W.heap.size (l ++ (encS s ++ encS t)) o' :: L) := by
  subst hmn hmn2
  have hwr : WrAt w p W.heap.size l o := h.head
  have hp2 := hwr.lt
  have ho2 : ∀ x, o = some x → x < w.heap.size := fun x hx => (hwr.own_lt x hx).1
  have z1 := bytesWorld_sz w s
  have z2 := bytesWorld_sz (Lib.bytesWorld w 5 s) t
  have b2 := bytesWorld_below (Lib.bytesWorld w 5 s) t
  have S4 := h.grow ((bytesWorld_below w s).trans (b2.mono (by omega)))
  refine (S4.rows [⟨some ⟨w.heap.size, 0, none⟩, grownCap w s.size 0 5, s.data.toList⟩, ⟨some ⟨w.heap.size + 1, 0, none⟩, grownCap (Lib.bytesWorld w 5 s) t.size 0 5, t.data.toList⟩] n 2 (by omega) rfl _ rfl (fun r hr => ?_) ?_).mono ?_
  · simp only [List.mem_cons, List.not_mem_nil, or_false] at hr
    rcases hr with rfl | rfl
    · exact srow_ok s hs _ _ _ rfl hp2 ho2 b2
    · exact srow_ok t ht _ _ _ (by omega) (by omega) (fun x hx => by have := ho2 x hx; omega) (Below.refl _ _)
  · simp only [flatR, List.flatMap_cons, List.flatMap_nil, List.length_append, List.length_cons, List.length_nil, List.append_nil, Array.length_toList]
    simp only [ByteArray.size] at hm
    omega
  · rintro e w' ⟨rfl, o', hS⟩
    refine ⟨rfl, o', ?_⟩
    simp only [encRows, List.flatMap_cons, List.flatMap_nil, List.append_nil] at hS
    exact hS
end Go.Proofs.Ytobnibdeimiinaa
