/- Contracts of the laws' helpers: roomy, stands, spoil. -/
import Derived.Test.YtcboflabjdiadaaBw
import Derived.Test.YtcboflabjdiadaaFoot
import Derived.Lib.SlBytesConst
namespace Go.Proofs.Ytcboflabjdiadaa
open Go.RowKit

theorem bytV_set (l : List UInt8) (i : Nat) (c : UInt8) : (bytV l).set i (.int .u8 (c.toNat : Int)) = bytV (l.set i c) := by simp [bytV, List.map_set]
theorem own_stored {w : World} {base g cap : Nat} {l : List UInt8} (h : OwnB w base (some ⟨g, 0, none⟩) cap l) (j : Nat) (c : UInt8) : OwnB (w.setCell ⟨g, j, none⟩ (.int .u8 (c.toNat : Int))) base (some ⟨g, 0, none⟩) cap (l.set j c) := by
  have := (World.ownsRow.stored h j (.int .u8 (c.toNat : Int))).1
  unfold OwnB
  rw [bytV_set] at this
  rw [List.length_set]
  exact this
theorem own_form {w : World} {base cap : Nat} {ao : Option Addr} {l : List UInt8} (h : OwnB w base ao cap l) (hp : 0 < l.length) : ∃ g, ao = some ⟨g, 0, none⟩ ∧ base ≤ g ∧ g < w.heap.size := by
  rcases h.2 with ⟨hv, h0⟩ | ⟨g, c, cur, hv, hg, hh, -⟩
  · omega
  · simp only [Value.slice.injEq] at hv
    exact ⟨g, hv.1, hg, (Array.getElem?_eq_some_iff.1 hh).1⟩
/-- A shorter slice of the same bytes. -/
theorem own_short {w : World} {base cap g : Nat} {l : List UInt8} (h : OwnB w base (some ⟨g, 0, none⟩) cap l) (n : Nat) (hn : n ≤ l.length) : OwnB w base (some ⟨g, 0, none⟩) cap (l.take n) := by
  have hl : (l.take n).length = n := by rw [List.length_take, Nat.min_eq_left hn]
  unfold OwnB
  rw [hl]
  refine ⟨by rw [bytV_length, hl, Nat.mul_one], ?_⟩
  rcases h.2 with ⟨hv, h0⟩ | ⟨g', c, cur, hv, hg, hh, h1, h2, h3, h4⟩
  · simp at hv
  · simp only [Value.slice.injEq, Option.some.injEq, Addr.mk.injEq, and_true, true_and] at hv
    obtain ⟨rfl, rfl⟩ := hv
    refine .inr ⟨g, cap, cur, rfl, hg, hh, by omega, h2, h3, ?_⟩
    have : (cur.toList.take (l.length * 1)).take (n * 1) = (bytV l).take (n * 1) := by rw [h4]
    rw [List.take_take, Nat.min_eq_left (by omega)] at this
    rw [this]
    simp [bytV, List.map_take]

set_option maxHeartbeats 1000000 in
theorem spoil_any (ao : Option Addr) (cap base : Nat) (l : List UInt8) (w : World) (h : OwnB w base ao cap l) (hbase : base ≤ w.heap.size) (hm : l.length ≤ 140737488351232) :
    Calls Try.prog 29 #[.slice ao l.length cap] w fun e w' => e = .returned (.tuple #[]) ∧ Keeps w w' (fun x => ∃ a, ao = some a ∧ a.block = x) := by
  obtain ⟨i0, hi, hz0, hz1, hz2⟩ := info_parts byteInfo
  have H := Lib.hid h
  clear h
  go_enter Try.func29, Try.ntmps29
  go_wp2_with (at_builtin; go_must (refine wpList_append_foot _ rfl (.tmp 4) (.tmp 5) 33 rfl base 5 i0 (.int .u8 0) 1 1 Try.underlying33 hi hz0 hz1 hz2 rfl (by decide) ao l.length cap (bytV l) rfl (H.out.alloc _) (some ⟨w.heap.size, 0, none⟩) 1 1 (bytV [(99 : UInt8)]) rfl (fun h => by cases h) rfl (one_cell _ _ _ _ rfl) (bytV_one [(99 : UInt8)]) (by unfold maxLen; omega) (by omega) (by simp; omega) ?_))
  intro co c' w1 hown1 hgrow1 hco1
  have hown2 : OwnB w1 base co c' (l ++ [99]) := by unfold OwnB; rw [← bytV_append, List.length_append]; exact hown1
  obtain ⟨g, rfl, hbg, hg1⟩ := own_form hown2 (by simp)
  have hk1 : Keeps w w1 (fun x => ∃ a, ao = some a ∧ a.block = x) := by
    refine (Keeps.of_grown ((Below.refl _ _).alloc (Nat.le_refl _) _) (Nat.le_refl _) _).trans (Keeps.grown hgrow1) (fun _ h => h) (fun i _ h => ?_)
    cases ao with
    | none => simp [Value.ownBlock] at h
    | some a => simp [Value.ownBlock] at h; exact ⟨a, rfl, h.symm⟩
  have hgs : (∃ a, ao = some a ∧ a.block = g) ∨ w.heap.size ≤ g := by
    rcases hco1 _ rfl with h | h
    · exact .inl ⟨_, h, rfl⟩
    · right; simp at h; omega
  have Hown2 := Lib.hid hown2
  have Hk1 := Lib.hid hk1
  have Hgs := Lib.hid hgs
  clear hown1 hgrow1 hco1 hown2 hk1 hgs
  go_wp2_with fail
  go_loopw [3] (fun i wr => ∃ (k : Nat) (l' : List UInt8), i = .int .i64 k ∧ l'.length = l.length + 1 ∧ Hid (OwnB wr base (some ⟨g, 0, none⟩) c' l') ∧ Hid (Keeps w wr (fun x => ∃ a, ao = some a ∧ a.block = x))) (fun i _ => l.length + 1 - (intOf i).toNat)
  case atStart => exact ⟨0, _, rfl, by simp, Hown2, Hk1⟩
  case round =>
    obtain ⟨k, l', rfl, hl', ho, hk⟩ := hrel
    by_cases hlt : k < l.length + 1
    · have hc := World.ownsRow.cellAt ho.out k (by omega)
      rw [bytV_get l' k (by omega)] at hc
      have hf := World.ownsRow.frozenAt ho.out k
      go_wp2_with fail
      go_roundw
      case rel => exact ⟨k + 1, l'.set k 98, by go_num, by simpa using hl', own_stored ho.out k 98, by
          refine hk.out.trans (Keeps.set _ _ _) (fun _ h => h) (fun i hi h => ?_)
          subst h
          rcases Hgs.out with h | h
          · exact h
          · have := hi; omega⟩
      case measure => simp [intOf]; omega
    · go_wp2_with fail
      go_end0
      exact ⟨rfl, hk.out⟩

theorem spoil_at (n : Nat) (ao : Option Addr) (cap base : Nat) (l : List UInt8) (w : World) (h : OwnB w base ao cap l) (hn : n = l.length) (hbase : base ≤ w.heap.size) (hm : l.length ≤ 140737488351232) :
    Calls Try.prog 29 #[.slice ao n cap] w fun e w' => e = .returned (.tuple #[]) ∧ Keeps w w' (fun x => ∃ a, ao = some a ∧ a.block = x) := by
  subst hn; exact spoil_any ao cap base l w h hbase hm
theorem own_lit (w : World) (l : List UInt8) (hm : l.length ≤ 140737488351232) : OwnB (w.alloc (.cells (bytV l).toArray 5)) w.heap.size (some ⟨w.heap.size, 0, none⟩) l.length l :=
  World.ownsRow_lit w (bytV l).toArray l.length (Nat.le_refl _) (by unfold maxLen; omega) (by simp [bytV_length])

theorem bat_lit (w : World) (n : Nat) (hn : n = w.heap.size) (l : List UInt8) (t : TypeId) (fr : Nat × Nat) : BAt (w.alloc (.cells (bytV l).toArray t fr)) (some ⟨n, 0, none⟩) l := by
  subst hn
  refine fun _ => ⟨w.heap.size, 0, rfl, by simp, fun i hi => ?_⟩
  have : (w.alloc (.cells (bytV l).toArray t fr)).heap[w.heap.size]? = some (.cells (bytV l).toArray t fr) := heap_new w _
  rw [Nat.zero_add]
  simp only [World.cell?, this]
  simpa using bytV_get l i hi
/-- '[]byte("..")' of a constant. -/
theorem const_bytes (w : World) (C : Array Value) (n c : Nat) : (convert 33 33 (.slice (some ⟨w.heap.size, 0, none⟩) n c)).run Try.prog (w.alloc (.cells C 5)) = .ok (.slice (some ⟨w.heap.size, 0, none⟩) n c) (w.alloc (.cells C 5 (C.size, C.size + 1))) :=
  Lib.run_convert_bytes_const w 33 5 C n c Try.underlying33 Try.underlying5

set_option maxHeartbeats 1000000 in
theorem roomy_any (ao : Option Addr) (cap : Nat) (a : List UInt8) (w : World) (h0 : ao = none → a.length = 0 ∧ cap = 0) (ha : BAt w ao a) (hm : a.length ≤ 140737488351232) :
    Calls Try.prog 27 #[.slice ao a.length cap] w fun e w' => ∃ g c, e = .returned (.slice (some ⟨g, 0, none⟩) (a.length + 1 : Nat) c) ∧ OwnB w' w.heap.size (some ⟨g, 0, none⟩) c (a ++ [171]) ∧ Below w.heap.size w w' := by
  obtain ⟨i0, hi, hz0, hz1, hz2⟩ := info_parts byteInfo
  have Ha := Lib.hid ha
  have H0 := Lib.hid h0
  clear ha h0
  go_enter Try.func27, Try.ntmps27
  go_wp2_with (at_builtin; go_must (refine wpList_append_any _ rfl (.tmp 3) (.tmp 4) 33 rfl w.heap.size 5 i0 (.int .u8 0) 1 1 Try.underlying33 hi hz0 hz1 hz2 rfl (by decide) _ 0 [] rfl (owns_emptyAt _ w.heap.size rfl w.heap.size (Nat.le_refl _) 5 1) ao a.length cap (bytV a) rfl H0.out (by rw [bytV_length, Nat.mul_one]) (Ha.out.below ((Below.refl _ _).alloc (Nat.le_refl _) _)).cells (bytV_one a) (by unfold maxLen; omega) (by omega) (by simp) ?_))
  intro v w1 hown hgrow
  have hb : Below w.heap.size w w1 := below_grown ((Below.refl _ _).alloc (Nat.le_refl _) _) (by simp) hgrow (fun k hk => by simp [Value.ownBlock] at hk; omega)
  obtain ⟨bo, c1, hv, ho⟩ := owned_bytes (l := a) (by simpa using hown) rfl
  have Ho := Lib.hid ho
  have Hb := Lib.hid hb
  have hs1 := hb.size
  clear hown hgrow ho hb
  rw [hv]
  clear hv v
  go_wp2_with (at_builtin; go_must (refine wpList_append_foot _ rfl (.tmp 5) (.tmp 6) 33 rfl w.heap.size 5 i0 (.int .u8 0) 1 1 Try.underlying33 hi hz0 hz1 hz2 rfl (by decide) bo a.length c1 (bytV a) rfl (Ho.out.alloc _) (some ⟨w1.heap.size, 0, none⟩) 1 1 (bytV [(171 : UInt8)]) rfl (fun h => by cases h) rfl (one_cell _ _ _ _ rfl) (bytV_one [(171 : UInt8)]) (by unfold maxLen; omega) (by omega) (by simp; omega) ?_))
  intro co c2 w2 hown hgrow hco
  have hb : Below w.heap.size w w2 := below_grown ((Hb.out).alloc hs1 _) (by simp; omega) hgrow (fun k hk => own_block Ho.out hk)
  have ho : OwnB w2 w.heap.size co c2 (a ++ [171]) := by unfold OwnB; rw [← bytV_append, List.length_append]; exact hown
  clear Hb Ho
  have Ho := Lib.hid ho
  have Hb := Lib.hid hb
  have hs2 := hb.size
  clear hown hgrow ho hb hco
  have hl1 : (a ++ [171]).length = a.length + 1 := by simp
  have hown2 : w2.ownsRow w.heap.size 5 1 (.slice co (a.length + 1) c2) (a.length + 1) (bytV (a ++ [171])) := by have := Ho.out; unfold OwnB at this; rw [hl1] at this; exact this
  have Ho2 := Lib.hid hown2
  clear hown2
  go_wp2_with (at_builtin; go_must (refine wpList_append_foot _ rfl (.tmp 7) (.tmp 8) 33 rfl w.heap.size 5 i0 (.int .u8 0) 1 1 Try.underlying33 hi hz0 hz1 hz2 rfl (by decide) co (a.length + 1) c2 (bytV (a ++ [171])) rfl (Ho2.out.alloc _) (some ⟨w2.heap.size, 0, none⟩) 1 1 (bytV [(171 : UInt8)]) rfl (fun h => by cases h) rfl (one_cell _ _ _ _ rfl) (bytV_one [(171 : UInt8)]) (by unfold maxLen; omega) (by omega) (by simp; omega) ?_))
  intro do3 c3 w3 hown hgrow hco
  have hb : Below w.heap.size w w3 := below_grown ((Hb.out).alloc hs2 _) (by simp; omega) hgrow (fun k hk => own_block Ho2.out hk)
  have ho : OwnB w3 w.heap.size do3 c3 (a ++ [171] ++ [171]) := by unfold OwnB; rw [← bytV_append, List.length_append, hl1]; exact hown
  obtain ⟨g, rfl, hbg, hg1⟩ := own_form ho (by simp)
  have hle := ho.le
  simp only [List.length_append, List.length_cons, List.length_nil] at hle
  have Ho3 := Lib.hid ho
  have Hb3 := Lib.hid hb
  clear hown hgrow ho hb hco Hb Ho Ho2
  go_wp2_with fail
  go_ret
  refine ⟨g, c3, ?_, ?_, Hb3.out⟩
  · rfl
  · have := own_short Ho3.out (a.length + 1) (by simp)
    rwa [← hl1, List.take_left] at this

end Go.Proofs.Ytcboflabjdiadaa
