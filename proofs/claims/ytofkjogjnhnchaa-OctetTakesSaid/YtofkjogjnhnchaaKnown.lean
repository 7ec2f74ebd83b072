/- The laws' 'known': numbers, a row, a sum. -/
import Derived.Test.YtofkjogjnhnchaaWrRows
import Derived.Test.YtofkjogjnhnchaaSum
import Derived.Test.YtofkjogjnhnchaaHelp
import Derived.Lib.SmallJoins
namespace Go.Proofs.Ytofkjogjnhnchaa
open Go.RowKit Go.Joins

/-- A Writer that has just been made. -/
theorem wr_new (w : World) (base : Nat) (n : Nat) (hn : n = w.heap.size) : WrAt (w.alloc (.cells #[.slice none 0 0] 25)) n base [] none := by
  subst hn
  exact ⟨none, 0, heap_new w _, ⟨rfl, .inl ⟨rfl, rfl⟩⟩, rfl, by simp⟩
theorem known_sum : sumOf [49, 50, 51, 52, 53, 54, 55, 56, 57] = 3421780262 := by decide +kernel
theorem WInv.done {w wr : World} {p base : Nat} {o : Option Nat} {full : List UInt8} (h : WInv w wr p base o full []) : ∃ o', WrAt wr p base full o' ∧ Keeps w wr (Foot p o) ∧ (∀ g, o' = some g → o = some g ∨ w.heap.size ≤ g) := by
  obtain ⟨cur, o', h1, h2, h3, h4⟩ := h
  rw [List.append_nil] at h2
  subst h2
  exact ⟨o', h1, h3, h4⟩

theorem bin_lit (w : World) (n : Nat) (hn : n = w.heap.size) (l : List UInt8) (t : TypeId) (fr : Nat × Nat) (D : Nat → Prop) (hD : D n) : BIn (w.alloc (.cells (bytV l).toArray t fr)) D (some ⟨n, 0, none⟩) l := fun hp => by
  obtain ⟨b, off, e, hb, hr⟩ := bat_lit w n hn l t fr hp
  simp only [Option.some.injEq, Addr.mk.injEq, and_true] at e
  obtain ⟨rfl, rfl⟩ := e
  exact ⟨n, 0, rfl, hb, hD, hr⟩
theorem BIn.grow {w w' : World} {D : Nat → Prop} {ao : Option Addr} {l : List UInt8} (h : BIn w D ao l) (b : Below w.heap.size w w') : BIn w' D ao l := h.keeps (keeps_same b (fun _ => False)) (fun _ _ h => h)
theorem below_alloc (w : World) (o : Obj) : Below w.heap.size w (w.alloc o) := (Below.refl _ _).alloc (Nat.le_refl _) _
theorem rat_of {w : World} {D : Nat → Prop} {b o : Nat} {g n : Nat} {l : List UInt8} (c : w.cell? ⟨b, o, none⟩ = some (.slice (some ⟨g, 0, none⟩) l.length n)) (hn : l.length ≤ n) (hn2 : n ≤ 9223372036854775807) (h : BIn w D (some ⟨g, 0, none⟩) l) : RAt w D b o ⟨some ⟨g, 0, none⟩, n, l⟩ := ⟨c, hn, hn2, fun h => (nomatch h), h⟩

theorem const_bytes1 (w : World) (o : Obj) (C : Array Value) (n c : Nat) : (convert 23 23 (.slice (some ⟨w.heap.size + 1, 0, none⟩) n c)).run Try.prog ((w.alloc o).alloc (.cells C 5)) = .ok (.slice (some ⟨w.heap.size + 1, 0, none⟩) n c) ((w.alloc o).alloc (.cells C 5 (C.size, C.size + 1))) := by
  have := const_bytes (w.alloc o) C n c
  rwa [show (w.alloc o).heap.size = w.heap.size + 1 from by simp] at this
set_option maxHeartbeats 2000000 in
theorem known_any (w : World) : Calls Try.prog 11 #[] w fun e w' => e = .returned (.bool true) ∧ Below w.heap.size w w' := by
  have kc := const_bytes
  have kc1 := const_bytes1
  go_enter Try.func11, Try.ntmps11
  go_wp2_with fail
  have hn := nums_some w.heap.size w.heap.size [] none (w.heap.size + 1) 0 2 [1, 300] ((w.alloc (.cells #[.slice none 0 0] 25)).alloc (.cells #[.int .i64 1, .int .i64 300] 3)) ((wr_new w w.heap.size _ rfl).grow (below_alloc _ _)) (fun i hi => by
    match i, hi with
    | 0, _ => rw [cell_alloc_mark_at _ _ _ _ _ _ (by simp)]; rfl
    | 1, _ => rw [cell_alloc_mark_at _ _ _ _ _ _ (by simp)]; rfl) (by simp) (by omega) (by simp) (by simp only [World.alloc, Array.size_push]; omega) (by decide)
  refine hn.mono ?_
  rintro e w1 ⟨rfl, h1⟩
  obtain ⟨o1, hw1, hk1, hf1⟩ := h1.done
  rw [show [] ++ encs [1, 300] = [1, 172, 2] from by decide] at hw1
  have hb1 : Below w.heap.size w w1 := (((below_alloc w _).alloc (by simp) _)).trans (hk1.below (fun x s => by rcases s with s | s; omega; cases s) (by simp only [World.alloc, Array.size_push]; omega))
  have hs1 := hb1.size
  have hp1 := hw1.lt
  have ho1 := hw1.own_lt
  have Hw1 := Lib.hid hw1
  have Hb1 := Lib.hid hb1
  have Ho1 := Lib.hid ho1
  clear hn h1 hw1 hk1 hf1 hb1 ho1
  go_wp2_with fail
  have hrs : RsAt ((w1.alloc (.cells #[.int .u8 97] 5 (1, 2))).alloc (.cells #[.slice (some ⟨w1.heap.size, 0, none⟩) 1 1] 23)) (fun x => x = w1.heap.size ∨ x = w1.heap.size + 1) (some ⟨w1.heap.size + 1, 0, none⟩) [⟨some ⟨w1.heap.size, 0, none⟩, 1, [97]⟩] := fun _ =>
    ⟨w1.heap.size + 1, 0, rfl, by simp, .inr rfl, fun i hi => by
      match i, hi with
      | 0, _ => exact rat_of (by rw [cell_alloc_mark_at _ _ _ _ _ _ (by simp)]; rfl) (by decide) (by decide) ((bin_lit w1 _ rfl [97] _ _ _ (.inl rfl)).grow (below_alloc _ _))⟩
  refine (wbytes_any w.heap.size w.heap.size [1, 172, 2] o1 _ 1 [⟨some ⟨w1.heap.size, 0, none⟩, 1, [97]⟩] _ _ ((Hw1.out.grow (below_alloc _ _)).grow (below_alloc _ _)) hrs (by omega) (fun g hg s => by have := (Ho1.out g hg).1; omega) (fun x hx => by simp only [World.alloc, Array.size_push]; omega) (by simp only [World.alloc, Array.size_push]; omega) (by simp [flatR])).mono ?_
  rintro e w2 ⟨rfl, h2⟩
  obtain ⟨o2, hw2, hk2, hf2⟩ := h2.done
  rw [show [1, 172, 2] ++ encRows [⟨some ⟨w1.heap.size, 0, none⟩, 1, [97]⟩] = [1, 172, 2, 1, 97] from rfl] at hw2
  have hb2 : Below w.heap.size w w2 := ((Hb1.out.alloc hs1 _).alloc (by simp; omega) _).trans (hk2.below (fun x s => by rcases s with s | s; omega; exact (Ho1.out x s).2) (by simp only [World.alloc, Array.size_push]; omega))
  have hs2 := hb2.size
  clear Hw1 Hb1 Ho1 hrs h2 hk2 hf2
  have Hw2 := Lib.hid hw2
  have Hb2 := Lib.hid hb2
  clear hw2 hb2
  go_wp2_with fail
  refine (out_any _ _ _ _ _ Hw2.out (by decide)).mono ?_
  rintro e w3 ⟨ao, cap, rfl, ho3, hb3⟩
  have hb3' := Hb2.out.trans (hb3.mono hs2)
  have hs3 := hb3'.size
  have Ho3 := Lib.hid ho3
  have Hb3 := Lib.hid hb3'
  clear Hw2 Hb2 ho3 hb3 hb3'
  go_wp2_with fail
  have hsame := same_any ao (some ⟨w3.heap.size, 0, none⟩) cap 5 [1, 172, 2, 1, 97] [1, 172, 2, 1, 97] (w3.alloc (.cells #[.int .u8 1, .int .u8 172, .int .u8 2, .int .u8 1, .int .u8 97] 5)) (Ho3.out.at.below (below_alloc _ _)) (bat_lit w3 _ rfl [1, 172, 2, 1, 97] _ _) (by decide) (by decide)
  simp only [beq_self_eq_true] at hsame
  refine hsame.mono ?_
  rintro e w4 ⟨rfl, hb4⟩
  have hb4' := (Hb3.out.alloc hs3 _).trans (hb4.mono (by simp only [World.alloc, Array.size_push]; omega))
  have hs4 := hb4'.size
  have Hb4 := Lib.hid hb4'
  clear hsame hb4 hb4' Hb3 Ho3
  go_wp2_with fail
  have hrs : RsAt (((w4.alloc (.cells #[.int .u8 49, .int .u8 50, .int .u8 51, .int .u8 52] 5 (4, 5))).alloc (.cells #[.int .u8 53, .int .u8 54, .int .u8 55, .int .u8 56, .int .u8 57] 5 (5, 6))).alloc (.cells #[.slice (some ⟨w4.heap.size, 0, none⟩) 4 4, .slice (some ⟨w4.heap.size + 1, 0, none⟩) 5 5] 23)) (fun _ => True) (some ⟨w4.heap.size + 2, 0, none⟩) [⟨some ⟨w4.heap.size, 0, none⟩, 4, [49, 50, 51, 52]⟩, ⟨some ⟨w4.heap.size + 1, 0, none⟩, 5, [53, 54, 55, 56, 57]⟩] := fun _ =>
    ⟨w4.heap.size + 2, 0, rfl, by simp, trivial, fun i hi => by
      match i, hi with
      | 0, _ => exact rat_of (by rw [cell_alloc_mark_at _ _ _ _ _ _ (by simp)]; rfl) (by decide) (by decide) (((bin_lit w4 _ rfl [49, 50, 51, 52] _ _ _ trivial).grow (below_alloc _ _)).grow (below_alloc _ _))
      | 1, _ => exact rat_of (by rw [cell_alloc_mark_at _ _ _ _ _ _ (by simp)]; rfl) (by decide) (by decide) ((bin_lit (w4.alloc (.cells #[.int .u8 49, .int .u8 50, .int .u8 51, .int .u8 52] 5 (4, 5))) _ (by simp) [53, 54, 55, 56, 57] _ _ _ trivial).grow (below_alloc _ _))⟩
  refine (sum_any _ 2 _ _ _ hrs (by simp)).mono ?_
  rintro e w5 ⟨rfl, rfl⟩
  rw [show sumOf (flatR [⟨some ⟨w4.heap.size, 0, none⟩, 4, [49, 50, 51, 52]⟩, ⟨some ⟨w4.heap.size + 1, 0, none⟩, 5, [53, 54, 55, 56, 57]⟩]) = 3421780262 from known_sum]
  go_wp2_with fail
  go_ret
  exact ⟨rfl, ((Hb4.out.alloc hs4 _).alloc (by simp; omega) _).alloc (by simp; omega) _⟩
end Go.Proofs.Ytofkjogjnhnchaa
