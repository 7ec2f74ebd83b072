/- Bytes that go: contracts of piece.New, Next, Ack, Whole, Size, and of the document's. -/
import Derived.Test.YtclbplodbmldpaaStep
namespace Go.Proofs.Ytclbplodbmldpaa
open Go.RowKit

/-- A struct of bytes and one number, in the block p; the bytes lie in the block g. -/
def SAt (w : World) (p g : Nat) (t : TypeId) (l : List UInt8) (k : Int) : Prop := ∃ ao cap, w.heap[p]? = some (.cells #[.slice ao l.length cap, .int .i64 k] t (0, 0)) ∧ l.length ≤ cap ∧ cap ≤ 9223372036854775807 ∧ (ao = none → l.length = 0 ∧ cap = 0) ∧ (0 < l.length → ∃ off, ao = some ⟨g, off, none⟩ ∧ g < w.heap.size ∧ BRow w g off l)
theorem cell_of_two {w : World} {b : Nat} {u v : Value} {t : TypeId} (h : w.heap[b]? = some (.cells #[u, v] t (0, 0))) : w.cell? ⟨b, 0, none⟩ = some u ∧ w.cell? ⟨b, 1, none⟩ = some v ∧ w.frozen? ⟨b, 0, none⟩ = false ∧ w.frozen? ⟨b, 1, none⟩ = false := by
  simp [World.cell?, World.frozen?, h]
theorem set_two_fst {w : World} {b : Nat} {u v x : Value} {t : TypeId} (h : w.heap[b]? = some (.cells #[u, v] t (0, 0))) : (w.setCell ⟨b, 0, none⟩ x).heap[b]? = some (.cells #[x, v] t (0, 0)) := by
  simp [World.setCell, Array.getElem?_modify, h]
theorem set_two_snd {w : World} {b : Nat} {u v x : Value} {t : TypeId} (h : w.heap[b]? = some (.cells #[u, v] t (0, 0))) : (w.setCell ⟨b, 1, none⟩ x).heap[b]? = some (.cells #[u, x] t (0, 0)) := by
  simp [World.setCell, Array.getElem?_modify, h]
theorem SAt.lt {w : World} {p g : Nat} {t : TypeId} {l : List UInt8} {k : Int} (h : SAt w p g t l k) : p < w.heap.size := by
  obtain ⟨ao, cap, h1, -⟩ := h
  exact lt_of_block h1
theorem SAt.glt {w : World} {p g : Nat} {t : TypeId} {l : List UInt8} {k : Int} (h : SAt w p g t l k) : 0 < l.length → g < w.heap.size := by
  obtain ⟨ao, cap, -, -, -, -, h6⟩ := h
  exact fun hl => (h6 hl).choose_spec.2.1
theorem SAt.keeps {w w' : World} {p g : Nat} {t : TypeId} {l : List UInt8} {k : Int} {S : Nat → Prop} (h : SAt w p g t l k) (kp : Keeps w w' S) (hp : ¬ S p) (hg : 0 < l.length → ¬ S g) : SAt w' p g t l k := by
  obtain ⟨ao, cap, h1, h2, h3, h4, h6⟩ := h
  refine ⟨ao, cap, (kp.block p (lt_of_block h1) hp).trans h1, h2, h3, h4, fun hl => ?_⟩
  obtain ⟨off, e, hlt, hr⟩ := h6 hl
  exact ⟨off, e, Nat.lt_of_lt_of_le hlt kp.size, hr.keeps hlt kp (hg hl)⟩
theorem keeps_same {w w' : World} (h : Below w.heap.size w w') (S : Nat → Prop) : Keeps w w' S := Keeps.of_grown h (Nat.le_refl _) S
theorem SAt.grow {w w' : World} {p g : Nat} {t : TypeId} {l : List UInt8} {k : Int} (h : SAt w p g t l k) (b : Below w.heap.size w w') : SAt w' p g t l k := h.keeps (keeps_same b (fun _ => False)) (fun h => h) (fun _ h => h)
theorem SAt.set {w : World} {p g : Nat} {t : TypeId} {l : List UInt8} {k : Int} (h : SAt w p g t l k) (hgp : g ≠ p) (k' : Int) : SAt (w.setCell ⟨p, 1, none⟩ (.int .i64 k')) p g t l k' := by
  obtain ⟨ao, cap, h1, h2, h3, h4, h6⟩ := h
  refine ⟨ao, cap, set_two_snd h1, h2, h3, h4, fun hl => ?_⟩
  obtain ⟨off, e, hlt, hr⟩ := h6 hl
  exact ⟨off, e, by simpa [World.setCell] using hlt, hr.keeps hlt (Keeps.set w _ _) hgp⟩
/-- What lies behind the first k bytes. -/
theorem bat_cut {w : World} {g : Nat} {ao : Option Addr} {l : List UInt8} (h : 0 < l.length → ∃ off, ao = some ⟨g, off, none⟩ ∧ g < w.heap.size ∧ BRow w g off l) (k m : Nat) (ao' : Option Addr) (hk : k ≤ l.length) (ha : k < l.length → ao' = ao.map fun x => x.add k) : BAt w ao' ((l.drop k).take m) := by
  intro hp
  rw [List.length_take, List.length_drop] at hp
  obtain ⟨off, e, hlt, hr⟩ := h (by omega)
  refine ⟨g, off + k, by rw [ha (by omega), e]; simp only [Option.map_some, add_none], hlt, fun i hi => ?_⟩
  rw [List.length_take, List.length_drop] at hi
  rw [List.getElem_take, List.getElem_drop, Nat.add_assoc]
  exact hr (k + i) (by omega)
def pieceOf (l : List UInt8) (k : Nat) : List UInt8 := (l.drop k).take 512
theorem pieceOf_length (l : List UInt8) (k : Nat) : (pieceOf l k).length = min (l.length - k) 512 := by rw [pieceOf, List.length_take, List.length_drop, Nat.min_comm]

theorem new_any (ao : Option Addr) (cap : Nat) (a : List UInt8) (w : World) (h0 : ao = none → a.length = 0 ∧ cap = 0) (ha : BAt w ao a) (hm : a.length ≤ 140737488351232) :
    Calls Try.prog 8 #[.slice ao a.length cap] w fun e w' => ∃ p g, e = .returned (.pointer (some ⟨p, 0, none⟩)) ∧ SAt w' p g 55 a 0 ∧ Below w.heap.size w w' ∧ w.heap.size ≤ p ∧ w.heap.size ≤ g ∧ g ≠ p := by
  go_enter Try.func8, Try.ntmps8
  go_wp2_with fail
  refine (clone_any ao cap a _ h0 ha hm).mono ?_
  rintro e w1 ⟨bo, c, rfl, ho, hb⟩
  go_wp2_with fail
  go_ret
  have hs := hb.size
  by_cases hp : 0 < a.length
  · obtain ⟨g, e, hbg, hlt, hr⟩ := ho.row hp
    exact ⟨w1.heap.size, g, rfl, ⟨bo, c, heap_new _ _, ho.le.1, ho.le.2, ho.none, fun _ => ⟨0, e, by simp; omega, hr.below hlt ((Below.refl _ _).alloc (Nat.le_refl _) _)⟩⟩, hb.alloc hs _, hs, hbg, by omega⟩
  · exact ⟨w1.heap.size, w1.heap.size + 1, rfl, ⟨bo, c, heap_new _ _, ho.le.1, ho.le.2, ho.none, fun h => absurd h hp⟩, hb.alloc hs _, hs, by omega, by omega⟩

set_option maxRecDepth 20000 in
set_option maxHeartbeats 2000000 in
theorem next_any (p g : Nat) (l : List UInt8) (k : Nat) (w : World) (h : SAt w p g 55 l k) (hk : k ≤ l.length) (hm : l.length ≤ 140737488351232) :
    Calls Try.prog 10 #[.pointer (some ⟨p, 0, none⟩)] w fun e w' => ∃ ao cap, e = .returned (.tuple #[.int .i64 k, .slice ao (pieceOf l k).length cap]) ∧ OwnB w' w.heap.size ao cap (pieceOf l k) ∧ Below w.heap.size w w' := by
  obtain ⟨ao, cap, hh, hlc, hcm, hnone, hrow⟩ := h
  obtain ⟨c0, c1, f0, f1⟩ := cell_of_two hh
  have hlt := lt_of_block hh
  have Hrow := Lib.hid hrow
  have Hnone := Lib.hid hnone
  clear hh hrow hnone
  have hq1 : min l.length (k + 512) ≤ cap := by omega
  have hq2 : k ≤ min l.length (k + 512) := by omega
  have hq : ∃ q : Nat, q = min l.length (k + 512) := ⟨_, rfl⟩
  obtain ⟨q, hq⟩ := hq
  rw [← hq] at hq1 hq2
  have hmin2 : min l.length (k + 512) = q := hq.symm
  have hmin : min (l.length : Int) (k + 512) = q := by omega
  have hkq : (k : Int) ≤ q := by omega
  have hqc : (q : Int) ≤ cap := by omega
  have hk0 : (0 : Int) ≤ k := by omega
  have hwr : IntKind.i64.wrap ((k : Int) + 512) = k + 512 := by rw [IntKind.wrap_i64]; omega
  have hpl : (pieceOf l k).length = q - k := by rw [pieceOf_length]; omega
  have Hq := Lib.hid hq
  clear hq
  rw [hpl]
  have hcl : ∀ ao' n' cap' w', n' = q - k → (ao' = none → n' = 0 ∧ cap' = 0) → (k < l.length → ao' = ao.map fun x => x.add k) → Below w.heap.size w w' → Calls Try.prog 27 #[.slice ao' n' cap'] w' fun e w1 => ∃ bo c, e = .returned (.slice bo (q - k) c) ∧ OwnB w1 w.heap.size bo c (pieceOf l k) ∧ Below w.heap.size w w1 ∧ w1.cell? ⟨p, 0, none⟩ = some (.slice ao l.length cap) ∧ w1.cell? ⟨p, 1, none⟩ = some (.int .i64 k) := by
    rintro ao' n' cap' w' rfl h0 ha hb
    have hat : BAt w' ao' (pieceOf l k) := (bat_cut Hrow.out k 512 ao' hk ha).below hb
    rw [← hpl] at h0 ⊢
    refine (clone_any ao' cap' (pieceOf l k) w' h0 hat (by omega)).mono ?_
    rintro e w1 ⟨bo, c, rfl, ho, hb1⟩
    have hbb := hb.trans (hb1.mono hb.size)
    exact ⟨bo, c, rfl, own_weak ho hb.size, hbb, (hbb.cell (p := ⟨p, 0, none⟩) hlt).trans c0, (hbb.cell (p := ⟨p, 1, none⟩) hlt).trans c1⟩
  have Hcl := Lib.hid hcl
  clear hcl
  by_cases hkc : cap = k
  · obtain rfl : q = k := by omega
    subst hkc
    clear hq1 hq2 hkq hqc
    go_enter Try.func10, Try.ntmps10
    go_wp2_with fail
    go_region_held3 (fun w' => w'.cell? ⟨p, 0, none⟩ = some (.slice ao l.length cap) ∧ w'.cell? ⟨p, 1, none⟩ = some (.int .i64 cap)) (go_keep) ((go_at_call 27; refine (Hcl.out _ _ _ _ (by omega) (fun h => ⟨by omega, by omega⟩) (fun h => by omega) (Below.refl _ _).drew).mono ?_; rintro e w1 ⟨bo, c, rfl, ho, hb, d0, d1⟩))
    go_wp2_with fail
    exact bodyPost_ret (v := .tuple #[.int .i64 cap, .slice bo (cap - cap) c]) (by simp only [results, Try.results10]; go_simp) rfl ⟨bo, c, rfl, ho, hb⟩
  · go_enter Try.func10, Try.ntmps10
    go_wp2_with fail
    go_region_held3 (fun w' => w'.cell? ⟨p, 0, none⟩ = some (.slice ao l.length cap) ∧ w'.cell? ⟨p, 1, none⟩ = some (.int .i64 k)) (go_keep) ((go_at_call 27; refine (Hcl.out _ _ _ _ rfl (fun h => by rw [Option.map_eq_none_iff] at h; have := Hnone.out h; omega) (fun h => rfl) (Below.refl _ _).drew).mono ?_; rintro e w1 ⟨bo, c, rfl, ho, hb, d0, d1⟩))
    go_wp2_with fail
    exact bodyPost_ret (v := .tuple #[.int .i64 k, .slice bo (q - k) c]) (by simp only [results, Try.results10]; go_simp) rfl ⟨bo, c, rfl, ho, hb⟩
theorem outWhole_any (p g : Nat) (l : List UInt8) (k : Nat) (w : World) (h : SAt w p g 55 l k) :
    Calls Try.prog 13 #[.pointer (some ⟨p, 0, none⟩)] w fun e w' => e = .returned (.bool ((k : Int) == l.length)) ∧ Below w.heap.size w w' := by
  obtain ⟨ao, cap, hh, -⟩ := h
  obtain ⟨c0, c1, f0, f1⟩ := cell_of_two hh
  clear hh
  go_enter Try.func13, Try.ntmps13
  go_wp2_with fail
  go_quiet (fail)
  go_wp2_with fail
  go_ret
  exact ⟨rfl, (by repeat (first | with_reducible exact Below.refl _ _ | with_reducible assumption | with_reducible refine Below.drew ?_ | with_reducible refine below_drawn ?_ | with_reducible refine Below.alloc ?_ (by first | omega | (simp; done) | (simp; omega) | (simp at *; omega)) _ | with_reducible refine Below.setCell ?_ (by first | omega | (simp; done) | (simp; omega) | (simp at *; omega)) _ | with_reducible refine Below.trans ?_ (Below.mono (by assumption) (by first | omega | (simp; done) | (simp; omega) | (simp at *; omega)))))⟩
theorem refWhole_any (p g : Nat) (l : List UInt8) (k : Nat) (w : World) (h : SAt w p g 29 l k) :
    Calls Try.prog 14 #[.pointer (some ⟨p, 0, none⟩)] w fun e w' => e = .returned (.bool ((k : Int) == l.length)) ∧ Below w.heap.size w w' := by
  obtain ⟨ao, cap, hh, -⟩ := h
  obtain ⟨c0, c1, f0, f1⟩ := cell_of_two hh
  clear hh
  go_enter Try.func14, Try.ntmps14
  go_wp2_with fail
  go_quiet (fail)
  go_wp2_with fail
  go_ret
  exact ⟨rfl, (by repeat (first | with_reducible exact Below.refl _ _ | with_reducible assumption | with_reducible refine Below.drew ?_ | with_reducible refine below_drawn ?_ | with_reducible refine Below.alloc ?_ (by first | omega | (simp; done) | (simp; omega) | (simp at *; omega)) _ | with_reducible refine Below.setCell ?_ (by first | omega | (simp; done) | (simp; omega) | (simp at *; omega)) _ | with_reducible refine Below.trans ?_ (Below.mono (by assumption) (by first | omega | (simp; done) | (simp; omega) | (simp at *; omega)))))⟩
theorem outSize_any (p g : Nat) (l : List UInt8) (k : Nat) (w : World) (h : SAt w p g 55 l k) :
    Calls Try.prog 15 #[.pointer (some ⟨p, 0, none⟩)] w fun e w' => e = .returned (.int .i64 l.length) ∧ Below w.heap.size w w' := by
  obtain ⟨ao, cap, hh, -⟩ := h
  obtain ⟨c0, c1, f0, f1⟩ := cell_of_two hh
  clear hh
  go_enter Try.func15, Try.ntmps15
  go_wp2_with fail
  go_ret
  exact ⟨rfl, (by repeat (first | with_reducible exact Below.refl _ _ | with_reducible assumption | with_reducible refine Below.drew ?_ | with_reducible refine below_drawn ?_ | with_reducible refine Below.alloc ?_ (by first | omega | (simp; done) | (simp; omega) | (simp at *; omega)) _ | with_reducible refine Below.setCell ?_ (by first | omega | (simp; done) | (simp; omega) | (simp at *; omega)) _ | with_reducible refine Below.trans ?_ (Below.mono (by assumption) (by first | omega | (simp; done) | (simp; omega) | (simp at *; omega)))))⟩
/-- What is told behind an Ack. -/
def ackOk (l : List UInt8) (k : Nat) (n : Int) : Bool := decide ((k : Int) < n ∧ n ≤ l.length)
def ackOf (l : List UInt8) (k : Nat) (n : Int) : Nat := if ackOk l k n then n.toNat else k
theorem ackOf_le (l : List UInt8) (k : Nat) (n : Int) (h : k ≤ l.length) : ackOf l k n ≤ l.length := by
  unfold ackOf ackOk; split
  · rename_i h1; simp at h1; omega
  · exact h
theorem ack_no {l : List UInt8} {k : Nat} {n : Int} (h : ¬ ((k : Int) < n ∧ n ≤ l.length)) : ackOk l k n = false ∧ ackOf l k n = k := by
  have : ackOk l k n = false := by unfold ackOk; exact decide_eq_false h
  exact ⟨this, by unfold ackOf; rw [this]; rfl⟩
theorem ack_yes {l : List UInt8} {k : Nat} {n : Int} (h1 : (k : Int) < n) (h2 : n ≤ l.length) : ackOk l k n = true ∧ (ackOf l k n : Int) = n := by
  have : ackOk l k n = true := by unfold ackOk; exact decide_eq_true ⟨h1, h2⟩
  exact ⟨this, by unfold ackOf; rw [this]; simp only [if_true]; omega⟩

theorem outAck_any (p g : Nat) (l : List UInt8) (k : Nat) (n : Int) (w : World) (h : SAt w p g 55 l k) (hgp : g ≠ p) :
    Calls Try.prog 16 #[.pointer (some ⟨p, 0, none⟩), .int .i64 n] w fun e w' => e = .returned (.bool (ackOk l k n)) ∧ SAt w' p g 55 l (ackOf l k n) ∧ Keeps w w' (fun x => x = p) := by
  have H := Lib.hid h
  obtain ⟨ao, cap, hh, -⟩ := h
  obtain ⟨c0, c1, f0, f1⟩ := cell_of_two hh
  clear hh
  by_cases h1 : n ≤ (k : Int)
  · obtain ⟨e1, e2⟩ := ack_no (l := l) (k := k) (n := n) (by omega)
    rw [e1, e2]
    clear e1 e2
    go_enter Try.func16, Try.ntmps16
    go_wp2_with fail
    all_goals first | (exfalso; omega) | skip
    go_ret
    exact ⟨rfl, H.out, Keeps.refl _ _⟩
  · by_cases h2 : (l.length : Int) < n
    · obtain ⟨e1, e2⟩ := ack_no (l := l) (k := k) (n := n) (by omega)
      rw [e1, e2]
      clear e1 e2
      go_enter Try.func16, Try.ntmps16
      go_wp2_with fail
      all_goals first | (exfalso; omega) | skip
      go_ret
      exact ⟨rfl, H.out, Keeps.refl _ _⟩
    · obtain ⟨e1, e2⟩ := ack_yes (l := l) (k := k) (n := n) (by omega) (by omega)
      rw [e1, e2]
      clear e1 e2
      go_enter Try.func16, Try.ntmps16
      go_wp2_with fail
      all_goals first | (exfalso; omega) | skip
      go_ret
      exact ⟨rfl, H.out.set hgp n, Keeps.set _ _ _⟩
theorem refAck_any (p g : Nat) (l : List UInt8) (k : Nat) (n : Int) (w : World) (h : SAt w p g 29 l k) (hgp : g ≠ p) :
    Calls Try.prog 17 #[.pointer (some ⟨p, 0, none⟩), .int .i64 n] w fun e w' => e = .returned (.bool (ackOk l k n)) ∧ SAt w' p g 29 l (ackOf l k n) ∧ Keeps w w' (fun x => x = p) := by
  have H := Lib.hid h
  obtain ⟨ao, cap, hh, -⟩ := h
  obtain ⟨c0, c1, f0, f1⟩ := cell_of_two hh
  clear hh
  by_cases h1 : n ≤ (k : Int)
  · obtain ⟨e1, e2⟩ := ack_no (l := l) (k := k) (n := n) (by omega)
    rw [e1, e2]
    clear e1 e2
    go_enter Try.func17, Try.ntmps17
    go_wp2_with fail
    all_goals first | (exfalso; omega) | skip
    go_ret
    exact ⟨rfl, H.out, Keeps.refl _ _⟩
  · by_cases h2 : (l.length : Int) < n
    · obtain ⟨e1, e2⟩ := ack_no (l := l) (k := k) (n := n) (by omega)
      rw [e1, e2]
      clear e1 e2
      go_enter Try.func17, Try.ntmps17
      go_wp2_with fail
      all_goals first | (exfalso; omega) | skip
      go_ret
      exact ⟨rfl, H.out, Keeps.refl _ _⟩
    · obtain ⟨e1, e2⟩ := ack_yes (l := l) (k := k) (n := n) (by omega) (by omega)
      rw [e1, e2]
      clear e1 e2
      go_enter Try.func17, Try.ntmps17
      go_wp2_with fail
      all_goals first | (exfalso; omega) | skip
      go_ret
      exact ⟨rfl, H.out.set hgp n, Keeps.set _ _ _⟩
end Go.Proofs.Ytclbplodbmldpaa
