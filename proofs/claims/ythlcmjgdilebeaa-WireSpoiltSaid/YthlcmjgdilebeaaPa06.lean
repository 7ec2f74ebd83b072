/- Texts put together: RdBytes, Obj, Perm, ThO, WrSt, Str, EncP, OpenB. -/
import Derived.Test.YthlcmjgdilebeaaPa01
import Derived.Test.YthlcmjgdilebeaaPa02
import Derived.Test.YthlcmjgdilebeaaPa03
import Derived.Test.YthlcmjgdilebeaaPa04
import Derived.Test.YthlcmjgdilebeaaPa05
import Derived.ChangeSlices
import Derived.Laws.Bits64b
import Derived.Lib.ConvBytes
namespace Go.Proofs.Ythlcmjgdilebeaa
open Go.RowKit
set_option maxRecDepth 20000

/-- A row taken: the row and what is left behind it. -/
def bytesOf (l : List UInt8) : Option (List UInt8 × List UInt8) := match numOf l with
  | none => none
  | some (n, r) => if n ≤ r.length then some (r.take n, r.drop n) else none
/-- What a reader answers and becomes. -/
def tookOf (rest : List UInt8) (bad : Bool) : List UInt8 × List UInt8 × Bool := match bytesOf rest with
  | some (x, r) => (x, r, bad)
  | none => ([], [], true)
theorem own_nothing (w : World) (base : Nat) : OwnB w base none 0 [] := ⟨rfl, .inl ⟨rfl, rfl⟩⟩
theorem RdAt.lt {w : World} {p g : Nat} {rest : List UInt8} {bad : Bool} (h : RdAt w p g rest bad) : p < w.heap.size := by
  obtain ⟨ao, cap, h1, -⟩ := h
  exact lt_of_block h1
theorem numOf_left {l : List UInt8} {n : Nat} {r : List UInt8} (h : numOf l = some (n, r)) : r.length ≤ l.length ∧ n ≤ 4611686018427387904 := by
  obtain ⟨h1, k, -, -, e⟩ := numR_left l 0 0 n r h
  exact ⟨by rw [e, List.length_drop]; omega, h1⟩

set_option maxHeartbeats 1000000 in
theorem rdbytes_any (p g : Nat) (rest : List UInt8) (bad : Bool) (w : World) (h : RdAt w p g rest bad) (hm : rest.length ≤ 140737488351232) :
    Calls Try.prog 42 #[.pointer (some ⟨p, 0, none⟩)] w fun e w' => ∃ x r' b' ao cap, (x, r', b') = tookOf rest bad ∧ e = .returned (.slice ao x.length cap) ∧ OwnB w' w.heap.size ao cap x ∧ RdAt w' p g r' b' ∧ Keeps w w' (fun x => x = p) := by
  have Hnum := Lib.hid (rdnum_any p g rest bad w h hm)
  have hlt := h.lt
  clear h
  have Htook : Hid (tookOf rest bad = match numOf rest with | none => ([], [], true) | some (n, r) => if n ≤ r.length then (r.take n, r.drop n, bad) else ([], [], true)) := by
    unfold Hid tookOf bytesOf
    cases numOf rest with
    | none => rfl
    | some o => obtain ⟨n, r⟩ := o; simp only; by_cases hc : n ≤ r.length <;> simp only [hc, if_true, if_false]
  go_enter Try.func42, Try.ntmps42
  go_wp2_with fail
  refine Hnum.out.mono ?_
  rintro e w1 ⟨hy, hn, hk⟩
  have hs := hk.size
  cases ho : numOf rest with
  | none =>
    obtain ⟨rfl, hr⟩ := hn ho
    have htook := Htook.out
    rw [ho] at htook
    have Ht := Lib.hid htook
    have Hraw := Lib.hid (rdraw_yes p g [] true 0 w1 hr (Nat.le_refl _) (by simp))
    clear hy hn hr ho htook
    go_wp2_with fail
    refine Hraw.out.mono ?_
    rintro e w2 ⟨ao, cap, rfl, hown, hr2, hk2⟩
    go_wp2_with fail
    go_ret
    exact ⟨[], [], true, ao, cap, Ht.out.symm, rfl, own_weak hown hs, hr2, hk.trans hk2 (fun _ h => h) (fun _ _ h => h)⟩
  | some o =>
    obtain ⟨n, r⟩ := o
    obtain ⟨rfl, hr⟩ := hy n r ho
    obtain ⟨hl, hnle⟩ := numOf_left ho
    have htook := Htook.out
    rw [ho] at htook
    simp only at htook
    by_cases hnr : n ≤ r.length
    · rw [if_pos hnr] at htook
      have Ht := Lib.hid htook
      have Hraw := Lib.hid (rdraw_yes p g r bad n w1 hr hnr (by omega))
      clear hy hn hr ho htook
      go_wp2_with fail
      refine Hraw.out.mono ?_
      rintro e w2 ⟨ao, cap, rfl, hown, hr2, hk2⟩
      go_wp2_with fail
      go_ret
      refine ⟨r.take n, r.drop n, bad, ao, cap, Ht.out.symm, ?_, own_weak hown hs, hr2, hk.trans hk2 (fun _ h => h) (fun _ _ h => h)⟩
      rw [List.length_take, Nat.min_eq_left hnr]; rfl
    · rw [if_neg hnr] at htook
      have Ht := Lib.hid htook
      have Hraw := Lib.hid (rdraw_no p g r bad n w1 hr (.inr (by omega)))
      clear hy hn hr ho htook
      go_wp2_with fail
      refine Hraw.out.mono ?_
      rintro e w2 ⟨rfl, hr2, hk2⟩
      go_wp2_with fail
      go_ret
      exact ⟨[], [], true, none, 0, Ht.out.symm, rfl, own_nothing _ _, hr2, hk.trans hk2 (fun _ h => h) (fun _ _ h => h)⟩
end Go.Proofs.Ythlcmjgdilebeaa

namespace Go.Proofs.Ythlcmjgdilebeaa
open Go.RowKit Go.Joins
set_option maxRecDepth 20000

def thWr (p base : Nat) (l : List UInt8) (o : Option Nat) : Th where
  T w := WrAt w p base l o
  F := Foot p o
  stay h k hS := h.keeps k (hS _ (.inl rfl)) (fun g hg => hS g (.inr hg))
  lt h hx := by
    rcases hx with rfl | hx
    · exact h.lt
    · exact (h.own_lt _ hx).1
theorem RdAt.stay {w w' : World} {p g : Nat} {rest : List UInt8} {bad : Bool} {S : Nat → Prop} (h : RdAt w p g rest bad) (k : Keeps w w' S) (hp : ¬ S p) (hg : 0 < rest.length → ¬ S g) : RdAt w' p g rest bad := by
  obtain ⟨ao, cap, h1, h2, h3, h4, h5, h6⟩ := h
  refine ⟨ao, cap, (k.block p (lt_of_block h1) hp).trans h1, h2, h3, h4, h5, fun hl => ?_⟩
  obtain ⟨off, e, hlt, hr⟩ := h6 hl
  exact ⟨off, e, Nat.lt_of_lt_of_le hlt k.size, hr.keeps hlt k (hg hl)⟩
theorem RdAt.glt {w : World} {p g : Nat} {rest : List UInt8} {bad : Bool} (h : RdAt w p g rest bad) (hl : 0 < rest.length) : g < w.heap.size := by
  obtain ⟨ao, cap, -, -, -, -, -, h6⟩ := h
  obtain ⟨off, e, hlt, -⟩ := h6 hl
  exact hlt
def thRd (p g : Nat) (rest : List UInt8) (bad : Bool) : Th where
  T w := RdAt w p g rest bad
  F x := x = p ∨ (x = g ∧ 0 < rest.length)
  stay h k hS := h.stay k (hS _ (.inl rfl)) (fun hl => hS _ (.inr ⟨rfl, hl⟩))
  lt h hx := by
    rcases hx with rfl | ⟨rfl, hx⟩
    · exact h.lt
    · exact h.glt hx
theorem St.wrote {W w w' : World} {L : List Th} {p base : Nat} {l full : List UInt8} {o : Option Nat} (h : St W w (thWr p base l o :: L)) (hi : WInv w w' p base o full []) : ∃ o', St W w' (thWr p base full o' :: L) := by
  obtain ⟨o', h1, h2, h3⟩ := hi.done
  refine ⟨o', h.step h2 (thWr p base full o') h1 (fun x hx => ?_)⟩
  rcases hx with hx | hx
  · exact .inl (.inl hx)
  · rcases h3 x hx with h4 | h4
    · exact .inl (.inr h4)
    · exact .inr h4
theorem St.newWr {W w : World} {L : List Th} (h : St W w L) (n : Nat) (hn : n = w.heap.size) (base : Nat) : St W (w.alloc (.cells #[.slice none 0 0] 59)) (thWr n base [] none :: L) :=
  h.new (below_alloc _ _) _ (wr_new w base n hn) (fun x hx => by
    rcases hx with hx | hx
    · omega
    · cases hx)
theorem St.read {W w w' : World} {L : List Th} {p g : Nat} {rest rest' : List UInt8} {bad bad' : Bool} (h : St W w (thRd p g rest bad :: L)) (hr : RdAt w' p g rest' bad') (k : Keeps w w' (fun x => x = p)) (hl : rest'.length ≤ rest.length) : St W w' (thRd p g rest' bad' :: L) :=
  h.step (k.weak (fun _ _ h => .inl h)) _ hr (fun x hx => by
    rcases hx with hx | ⟨hx, h1⟩
    · exact .inl (.inl hx)
    · exact .inl (.inr ⟨hx, by omega⟩))
theorem St.newRd {W w w' : World} {L : List Th} {p g : Nat} {rest : List UInt8} (h : St W w L) (hr : RdAt w' p g rest false) (hb : Below w.heap.size w w') (hp : w.heap.size ≤ p) (hg : w.heap.size ≤ g) : St W w' (thRd p g rest false :: L) :=
  h.new hb _ hr (fun x hx => by
    rcases hx with hx | ⟨hx, -⟩ <;> omega)
end Go.Proofs.Ythlcmjgdilebeaa

namespace Go.Proofs.Ythlcmjgdilebeaa
open Go.RowKit

theorem Ths.perm {B : Nat} {w : World} {L L' : List Th} (h : L.Perm L') : Ths B w L → Ths B w L' := by
  induction h with
  | nil => exact id
  | cons t hp ih => exact fun hl => ⟨hl.1, hl.2.1, fun u hu => hl.2.2.1 u (hp.mem_iff.2 hu), ih hl.2.2.2⟩
  | swap t u r =>
    intro hl
    obtain ⟨h1, h2, h3, h4, h5, h6, h7⟩ := hl
    refine ⟨h4, h5, fun v hv x hx => ?_, h1, h2, fun v hv => h3 v (by simp [hv]), h7⟩
    rcases List.mem_cons.1 hv with e | e
    · subst e; exact fun hux => h3 t (by simp) x hux hx
    · exact h6 v e x hx
  | trans _ _ ih1 ih2 => exact fun hl => ih2 (ih1 hl)
theorem St.perm {W w : World} {L L' : List Th} (h : St W w L) (p : L.Perm L') : St W w L' := ⟨h.b, h.t.perm p⟩
theorem St.mem {W w : World} {L : List Th} (h : St W w L) {t : Th} (ht : t ∈ L) : t.T w := by
  obtain ⟨A, R, rfl⟩ := List.append_of_mem ht
  exact (h.pull).head
end Go.Proofs.Ythlcmjgdilebeaa

namespace Go.Proofs.Ythlcmjgdilebeaa
open Go.RowKit

theorem below_allocO (w : World) (o : Obj) : Below w.heap.size w (w.alloc o) := (Below.refl _ _).alloc (Nat.le_refl _) _
/-- A block and what it holds. -/
def thObj (b : Nat) (o : Obj) : Th where
  T w := w.heap[b]? = some o
  F x := x = b
  stay h k hS := (k.block b (lt_of_block h) (hS b rfl)).trans h
  lt h e := e ▸ lt_of_block h
theorem St.objN {W w : World} {L : List Th} (h : St W w L) (o : Obj) (n : Nat) (hn : n = w.heap.size) : St W (w.alloc o) (thObj n o :: L) := by
  subst hn
  exact h.new (below_allocO w o) _ (heap_new w o) (fun x e => by rw [e]; exact Nat.le_refl _)
theorem cells_of_obj {w : World} {b : Nat} {cur : Array Value} {t : TypeId} (h : w.heap[b]? = some (.cells cur t (0, 0))) : (∀ j, w.cell? ⟨b, j, none⟩ = cur[j]?) ∧ ∀ j, w.frozen? ⟨b, j, none⟩ = false := by
  refine ⟨fun j => by simp [World.cell?, h], fun j => by simp [World.frozen?, h]⟩
theorem St.cells {W w : World} {L : List Th} (h : St W w L) {b : Nat} {cur : Array Value} {t : TypeId} (ht : thObj b (.cells cur t (0, 0)) ∈ L) : b < w.heap.size ∧ (∀ j, w.cell? ⟨b, j, none⟩ = cur[j]?) ∧ ∀ j, w.frozen? ⟨b, j, none⟩ = false :=
  ⟨lt_of_block (h.mem ht), cells_of_obj (h.mem ht)⟩
end Go.Proofs.Ythlcmjgdilebeaa

namespace Go.Proofs.Ythlcmjgdilebeaa
open Go.RowKit
set_option maxRecDepth 20000

def intV (l : List Int) : List Value := l.map (.int .i64)
theorem irow_obj {w : World} {n : Nat} {vs : List Int} {t : TypeId} {cur : Array Value} (h : w.heap[n]? = some (.cells cur t (0, 0))) (hc : cur = (intV vs).toArray) : IRow w n 0 vs := by
  subst hc
  intro i hi
  rw [(cells_of_obj h).1, Nat.zero_add]
  simp [intV, hi]
/-- Nums of numbers that are written out. -/
theorem St.nums {W w : World} {L : List Th} {p : Nat} {l : List UInt8} {o : Option Nat} (h : St W w (thWr p W.heap.size l o :: L)) (vs : List Int) (n k : Nat) (hn : n = w.heap.size) (hk : k = vs.length) (cur : Array Value) (hc : cur = (intV vs).toArray) (hm : l.length + 10 * vs.length ≤ 140737488351232) :
    Calls Try.prog 21 #[.pointer (some ⟨p, 0, none⟩), .slice (some ⟨n, 0, none⟩) k k] (w.alloc (.cells cur 3)) fun e w' => e = .returned (.tuple #[]) ∧ ∃ o', St W w' (thWr p W.heap.size (l ++ encs vs) o' :: L) := by
  subst hn hk
  have hw := h.head
  have hb := h.b.size
  have hg : St W (w.alloc (.cells cur 3)) (thWr p W.heap.size l o :: L) := h.grow (below_allocO _ _)
  refine (nums_some p W.heap.size l o w.heap.size 0 vs.length vs _ hg.head (irow_obj (heap_new w _) hc) (by simp) (fun e => by have := (show WrAt w p W.heap.size l o from hw).lt; omega) (fun e => by have := ((show WrAt w p W.heap.size l o from hw).own_lt _ e).1; omega) (by simp; omega) hm).mono ?_
  rintro e w' ⟨rfl, hi⟩
  exact ⟨rfl, hg.wrote hi⟩
/-- Rows that are written out. -/
theorem rs_lit {w : World} {n : Nat} {cur : Array Value} {t : TypeId} (h : w.heap[n]? = some (.cells cur t (0, 0))) (L : List RowR) (hc : cur.toList = L.map fun r => Value.slice r.ao r.bs.length r.cap) (D : Nat → Prop) (hD : D n) (hL : ∀ r ∈ L, r.bs.length ≤ r.cap ∧ r.cap ≤ 9223372036854775807 ∧ (r.ao = none → r.bs.length = 0 ∧ r.cap = 0) ∧ BIn w D r.ao r.bs) : RsAt w D (some ⟨n, 0, none⟩) L := by
  refine fun _ => ⟨n, 0, rfl, lt_of_block h, hD, fun i hi => ?_⟩
  obtain ⟨h1, h2, h3, h4⟩ := hL _ (List.getElem_mem hi)
  refine ⟨?_, h1, h2, h3, h4⟩
  rw [(cells_of_obj h).1, Nat.zero_add, ← Array.getElem?_toList, hc]
  simp [hi]
/-- Bytes of rows that are written out. -/
theorem St.rows {W w : World} {L : List Th} {p : Nat} {l : List UInt8} {o : Option Nat} (h : St W w (thWr p W.heap.size l o :: L)) (R : List RowR) (n k : Nat) (hn : n = w.heap.size) (hk : k = R.length) (cur : Array Value) (hc : cur.toList = R.map fun r => Value.slice r.ao r.bs.length r.cap)
    (hR : ∀ r ∈ R, r.bs.length ≤ r.cap ∧ r.cap ≤ 9223372036854775807 ∧ (r.ao = none → r.bs.length = 0 ∧ r.cap = 0) ∧ BAt w r.ao r.bs ∧ ∀ a, r.ao = some a → ¬ Foot p o a.block) (hm : l.length + 10 * R.length + (flatR R).length + 10 ≤ 140737488351232) :
    Calls Try.prog 22 #[.pointer (some ⟨p, 0, none⟩), .slice (some ⟨n, 0, none⟩) k k] (w.alloc (.cells cur 38)) fun e w' => e = .returned (.tuple #[]) ∧ ∃ o', St W w' (thWr p W.heap.size (l ++ encRows R) o' :: L) := by
  subst hn hk
  have hw : WrAt w p W.heap.size l o := h.head
  have hb := h.b.size
  have hg : St W (w.alloc (.cells cur 38)) (thWr p W.heap.size l o :: L) := h.grow (below_allocO _ _)
  have hnp : ¬ Foot p o w.heap.size := by
    rintro (e | e)
    · have := hw.lt; omega
    · have := (hw.own_lt _ e).1; omega
  have hrs := rs_lit (heap_new w (.cells cur 38)) R hc (fun x => x < (w.alloc (.cells cur 38)).heap.size ∧ ¬ Foot p o x) ⟨by simp, hnp⟩ (fun r hr => by
    obtain ⟨h1, h2, h3, h4, h5⟩ := hR r hr
    refine ⟨h1, h2, h3, fun hp => ?_⟩
    obtain ⟨b, off, e, hlt, hrow⟩ := h4 hp
    exact ⟨b, off, e, by simp; omega, ⟨by simp; omega, h5 _ e⟩, hrow.below hlt (below_allocO _ _)⟩)
  refine (wbytes_any p W.heap.size l o _ R.length R _ _ hg.head hrs (fun hx => hx.2 (.inl rfl)) (fun g hgo hx => hx.2 (.inr hgo)) (fun x hx => hx.1) (by simp; omega) (by omega)).mono ?_
  rintro e w' ⟨rfl, hi⟩
  exact ⟨rfl, hg.wrote hi⟩
end Go.Proofs.Ythlcmjgdilebeaa

namespace Go.Proofs.Ythlcmjgdilebeaa
open Go.RowKit
set_option maxRecDepth 20000

/-- A text's bytes, with their number ahead. -/
def encS (s : ByteArray) : List UInt8 := encRow s.data.toList
theorem conv_bytes (w : World) (s : ByteArray) : (convert 9 38 (.string s)).run Try.prog w = .ok (.slice (some ⟨w.heap.size, 0, none⟩) s.size (grownCap w s.size 0 5)) (Lib.bytesWorld w 5 s) :=
  Lib.run_convert_string_bytes w 9 38 5 s Try.underlying9 Try.underlying38 Try.underlying5
theorem bytesWorld_below (w : World) (s : ByteArray) : Below w.heap.size w (Lib.bytesWorld w 5 s) :=
  ⟨rfl, rfl, rfl, by rw [Lib.bytesWorld_size]; omega, fun k hk => Lib.bytesWorld_at_old w _ s k hk⟩
theorem bytesWorld_bat (w : World) (s : ByteArray) : BAt (Lib.bytesWorld w 5 s) (some ⟨w.heap.size, 0, none⟩) s.data.toList := fun _ => by
  refine ⟨w.heap.size, 0, rfl, by rw [Lib.bytesWorld_size]; omega, fun i hi => ?_⟩
  have hs : i < s.size := by simpa using hi
  rw [Nat.zero_add, Lib.bytesWorld_cell w _ s i hs]
  simp [List.getD, List.getElem?_eq_getElem hi]
@[go_sem] theorem bytesWorld_sz (w : World) (s : ByteArray) : (Lib.bytesWorld w 5 s).heap.size = w.heap.size + 1 := Lib.bytesWorld_size w _ s
@[go_sem] theorem bytesWorld_old (w : World) (s : ByteArray) (b o : Nat) (h : b < w.heap.size) : (Lib.bytesWorld w 5 s).cell? ⟨b, o, none⟩ = w.cell? ⟨b, o, none⟩ := (bytesWorld_below w s).cell (p := ⟨b, o, none⟩) h
theorem size_nil {s : ByteArray} (h : s.toList = []) : s.size = 0 := by
  rw [ByteArray.toList_eq] at h
  have h2 := congrArg List.length h
  rw [Array.length_toList] at h2
  exact h2
theorem srow_ok {w w' : World} (s : ByteArray) (hs : s.size ≤ 1000000) (p : Nat) (o : Option Nat) (g : Nat) (hg : g = w.heap.size) (hp : p < w.heap.size) (ho : ∀ x, o = some x → x < w.heap.size) (hb : Below (Lib.bytesWorld w 5 s).heap.size (Lib.bytesWorld w 5 s) w') :
    s.data.toList.length ≤ grownCap w s.size 0 5 ∧ grownCap w s.size 0 5 ≤ 9223372036854775807 ∧ (some (⟨g, 0, none⟩ : Addr) = none → s.data.toList.length = 0 ∧ grownCap w s.size 0 5 = 0) ∧ BAt w' (some ⟨g, 0, none⟩) s.data.toList ∧ ∀ a, some (⟨g, 0, none⟩ : Addr) = some a → ¬ Foot p o a.block := by
  subst hg
  have h1 : s.data.toList.length = s.size := by rw [Array.length_toList]; rfl
  have h2 := grownCap_le_maxLen w s.size 0 5 (by unfold maxLen; omega)
  unfold maxLen at h2
  refine ⟨by rw [h1]; exact grownCap_ge w s.size 0 _, by omega, (fun h => by cases h), (bytesWorld_bat w s).below hb, fun a ha => ?_⟩
  cases ha
  rintro (e | e)
  · simp only at e; omega
  · have := ho _ e; simp only at this; omega
theorem encS_length (s : ByteArray) : (encS s).length ≤ s.size + 10 := by
  have := (encN_length s.data.toList.length).1
  simp only [encS, encRow, List.length_append, Array.length_toList, ByteArray.size] at this ⊢
  omega
/-- Bytes of one text that is made bytes for it. -/
theorem St.text1 {W w : World} {L : List Th} {p : Nat} {l : List UInt8} {o : Option Nat} (h : St W w (thWr p W.heap.size l o :: L)) (s : ByteArray) (hs : s.size ≤ 1000000) (n : Nat) (hn : n = w.heap.size + 1) (m : Nat) (hmn : m = w.heap.size) (hm : l.length + s.size + 40 ≤ 140737488351232) :
    Calls Try.prog 22 #[.pointer (some ⟨p, 0, none⟩), .slice (some ⟨n, 0, none⟩) 1 1] ((Lib.bytesWorld w 5 s).alloc (.cells #[.slice (some ⟨m, 0, none⟩) s.size (grownCap w s.size 0 5)] 38)) fun e w' => e = .returned (.tuple #[]) ∧ ∃ o', St W w' (thWr p W.heap.size (l ++ encS s) o' :: L) := by
  subst hmn
  have hwr : WrAt w p W.heap.size l o := h.head
  have hp2 := hwr.lt
  have ho2 : ∀ x, o = some x → x < w.heap.size := fun x hx => (hwr.own_lt x hx).1
  have z1 := bytesWorld_sz w s
  have S4 := h.grow (bytesWorld_below w s)
  refine (S4.rows [⟨some ⟨w.heap.size, 0, none⟩, grownCap w s.size 0 5, s.data.toList⟩] n 1 (by omega) rfl _ rfl (fun r hr => ?_) ?_).mono ?_
  · obtain rfl := List.mem_singleton.1 hr
    exact srow_ok s hs _ _ _ rfl hp2 ho2 (Below.refl _ _)
  · simp only [flatR, List.flatMap_cons, List.flatMap_nil, List.length_cons, List.length_nil, List.append_nil, Array.length_toList]
    simp only [ByteArray.size] at hm
    omega
  · rintro e w' ⟨rfl, o', hS⟩
    refine ⟨rfl, o', ?_⟩
    simp only [encRows, List.flatMap_cons, List.flatMap_nil, List.append_nil] at hS
    exact hS
/-- Bytes of two texts. -/
theorem St.text2 {W w : World} {L : List Th} {p : Nat} {l : List UInt8} {o : Option Nat} (h : St W w (thWr p W.heap.size l o :: L)) (s t : ByteArray) (hs : s.size ≤ 1000000) (ht : t.size ≤ 1000000) (n : Nat) (hn : n = w.heap.size + 1 + 1) (m m2 : Nat) (hmn : m = w.heap.size) (hmn2 : m2 = w.heap.size + 1) (hm : l.length + s.size + t.size + 40 ≤ 140737488351232) :
    Calls Try.prog 22 #[.pointer (some ⟨p, 0, none⟩), .slice (some ⟨n, 0, none⟩) 2 2] ((Lib.bytesWorld (Lib.bytesWorld w 5 s) 5 t).alloc (.cells #[.slice (some ⟨m, 0, none⟩) s.size (grownCap w s.size 0 5), .slice (some ⟨m2, 0, none⟩) t.size (grownCap (Lib.bytesWorld w 5 s) t.size 0 5)] 38)) fun e w' => e = .returned (.tuple #[]) ∧ ∃ o', St W w' (thWr p W.heap.size (l ++ (encS s ++ encS t)) o' :: L) := by
  subst hmn hmn2
  have hwr : WrAt w p W.heap.size l o := h.head
  have hp2 := hwr.lt
  have ho2 : ∀ x, o = some x → x < w.heap.size := fun x hx => (hwr.own_lt x hx).1
  have z1 := bytesWorld_sz w s
  have z2 := bytesWorld_sz (Lib.bytesWorld w 5 s) t
  have b2 := bytesWorld_below (Lib.bytesWorld w 5 s) t
  have S4 := h.grow ((bytesWorld_below w s).trans (b2.mono (by omega)))
  refine (S4.rows [⟨some ⟨w.heap.size, 0, none⟩, grownCap w s.size 0 5, s.data.toList⟩, ⟨some ⟨w.heap.size + 1, 0, none⟩, grownCap (Lib.bytesWorld w 5 s) t.size 0 5, t.data.toList⟩] n 2 (by omega) rfl _ rfl (fun r hr => ?_) ?_).mono ?_
  · simp only [List.mem_cons, List.not_mem_nil, or_false] at hr
    rcases hr with rfl | rfl
    · exact srow_ok s hs _ _ _ rfl hp2 ho2 b2
    · exact srow_ok t ht _ _ _ (by omega) (by omega) (fun x hx => by have := ho2 x hx; omega) (Below.refl _ _)
  · simp only [flatR, List.flatMap_cons, List.flatMap_nil, List.length_append, List.length_cons, List.length_nil, List.append_nil, Array.length_toList]
    simp only [ByteArray.size] at hm
    omega
  · rintro e w' ⟨rfl, o', hS⟩
    refine ⟨rfl, o', ?_⟩
    simp only [encRows, List.flatMap_cons, List.flatMap_nil, List.append_nil] at hS
    exact hS
end Go.Proofs.Ythlcmjgdilebeaa

namespace Go.Proofs.Ythlcmjgdilebeaa
open Go.RowKit

def b1 (b : Bool) : Int := if b then 1 else 0
/-- A request's bytes. -/
def encO (o : Rq) : List UInt8 := encs [o.kind, o.client, o.seq] ++ (encS o.key ++ encS o.who ++ encS o.tkey ++ encS o.twho) ++ encs [o.item, o.count, o.price, b1 o.buy, o.id]
theorem may_kind {o : Rq} (h : mayO o = true) : placeB o.key o.who = true ∧ kindO o = true ∧ 1 ≤ o.client ∧ o.client ≤ 1048576 ∧ 1 ≤ o.seq ∧ o.seq ≤ 1099511627776 := by
  simp only [mayO, Bool.and_eq_true, decide_eq_true_eq] at h
  obtain ⟨⟨h1, h2⟩, h3⟩ := h
  exact ⟨h2, h3, h1⟩
theorem kind_parts {o : Rq} (h : kindO o = true) : ((o.kind = 1 ∨ o.kind = 6) ∧ cntO o = true) ∨ (o.kind = 2 ∧ sendO o = true) ∨ (o.kind = 3 ∧ ordO o = true) ∨ (o.kind = 4 ∧ canO o = true) ∨ ((o.kind = 5 ∨ o.kind = 7) ∧ barO o = true) := by
  unfold kindO at h
  split at h
  · exact .inl ⟨by assumption, h⟩
  · split at h
    · exact .inr (.inl ⟨by assumption, h⟩)
    · split at h
      · exact .inr (.inr (.inl ⟨by assumption, h⟩))
      · split at h
        · exact .inr (.inr (.inr (.inl ⟨by assumption, h⟩)))
        · split at h
          · exact .inr (.inr (.inr (.inr ⟨by assumption, h⟩)))
          · cases h
theorem may_sizes {o : Rq} (h : mayO o = true) : o.key.size ≤ 16 ∧ o.who.size ≤ 16 ∧ o.tkey.size ≤ 16 ∧ o.twho.size ≤ 16 := by
  obtain ⟨hp, hk, -⟩ := may_kind h
  simp only [placeB, decide_eq_true_eq] at hp
  refine ⟨hp.2.1, hp.2.2.2, ?_⟩
  rcases kind_parts hk with ⟨-, h⟩ | ⟨-, h⟩ | ⟨-, h⟩ | ⟨-, h⟩ | ⟨-, h⟩
  · simp only [cntO, decide_eq_true_eq] at h
    rw [size_nil h.2.2.2.2.1, size_nil h.2.2.2.2.2.1]; omega
  · simp only [sendO, placeB, Bool.and_eq_true, decide_eq_true_eq] at h
    omega
  · simp only [ordO, cntO, Bool.and_eq_true, decide_eq_true_eq] at h
    rw [size_nil h.2.2.2.2.2.1, size_nil h.2.2.2.2.2.2.1]; omega
  · simp only [canO, decide_eq_true_eq] at h
    rw [size_nil h.2.2.1, size_nil h.2.2.2.1]; omega
  · simp only [barO, decide_eq_true_eq] at h
    rw [size_nil h.1, size_nil h.2.1]; omega
end Go.Proofs.Ythlcmjgdilebeaa

namespace Go.Proofs.Ythlcmjgdilebeaa
open Go.ChangeShapes Go.WideShapes Go.Deep Go.RowKit

theorem lt_of_cellB {w : World} {a : Addr} {v : Value} (h : w.cell? a = some v) : a.block < w.heap.size := by
  rcases Nat.lt_or_ge a.block w.heap.size with h1 | h1
  · exact h1
  · simp [World.cell?, Array.getElem?_eq_none h1] at h
theorem wf_u8 {n : Int} (h : (Lit.int IntKind.u8 n).wf = true) : 0 ≤ n ∧ n < 256 := by
  have := range_u8 (zs := [n]) (by simpa using h) 0
  simp at this
  omega
section
variable {H : Type} {enc : TypeId × Value → H} {W : World}
set_option maxRecDepth 20000 in
/-- A slice of bytes: what its one cell holds. -/
theorem trod_bytes {fuel base : Nat} {cs : List Value} {x : DataW H × List MemPlace} (h : DataW.trod enc Try.prog W base (fun _ => true) true fuel 38 cs = some x) :
    ∃ ao l cap, cs = [.slice ao (l : List UInt8).length cap] ∧ l.length ≤ cap ∧ cap ≤ maxLen ∧ (ao = none → l.length = 0 ∧ cap = 0) ∧ BAt W ao l := by
  rcases open_ints Try.underlying38 Try.underlying5 (by kernel_rfl : Try.prog.cellsOf 5 = 1) h with ⟨hcs, hx⟩ | ⟨a, len, cap, zs, hcs, _, hl, hm, hz, hx, hcell, hwz⟩
  · exact ⟨none, [], 0, hcs, Nat.le_refl _, Nat.zero_le _, fun _ => ⟨rfl, rfl⟩, BAt.nil⟩
  · simp only [if_true] at hz
    have hlen : ((zs.take len).map fun n => UInt8.ofNat n.toNat).length = len := by simp; omega
    refine ⟨some a, (zs.take len).map fun n => UInt8.ofNat n.toNat, cap, by rw [hlen]; exact hcs, by omega, hm, fun h => (nomatch h), fun hp => ?_⟩
    rw [hlen] at hp
    obtain ⟨ab, ao, spot⟩ := a
    have hspot : spot = none := by simpa [Addr.add] using World.cell?_spot (hcell 0 (by omega))
    subst hspot
    have h0 := hcell 0 (by omega)
    refine ⟨ab, ao, rfl, ?_, fun i hi => ?_⟩
    · rw [add_none] at h0
      exact lt_of_cellB h0
    · rw [hlen] at hi
      have hci := hcell i (by omega)
      rw [add_none] at hci
      rw [hci]
      have e : zs.getD i 0 = zs[i]'(by omega) := by simp [List.getD, List.getElem?_eq_getElem (show i < zs.length by omega)]
      have hb := wf_u8 (hwz _ (List.getElem_mem (show i < zs.length by omega)))
      simp only [e, List.getElem_map, List.getElem_take]
      congr 2
      simp only [UInt8.toNat_ofNat']
      omega
end
end Go.Proofs.Ythlcmjgdilebeaa
