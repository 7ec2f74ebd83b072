/- The laws' known: a split. -/
import Derived.Test.YtobnibdeimiinaaDAp
import Derived.Test.YtobnibdeimiinaaDNew
namespace Go.Proofs.Ytobnibdeimiinaa
open Go.RowKit

theorem iat_lit (w : World) (n : Nat) (hn : n = w.heap.size) (l : List Int) (t : TypeId) (fr : Nat × Nat) : IAtD (w.alloc (.cells (l.map (Value.int .i64)).toArray t fr)) (some ⟨n, 0, none⟩) l := fun _ => by
  subst hn
  refine ⟨w.heap.size, 0, rfl, by simp, fun i hi => ?_⟩
  have : (w.alloc (.cells (l.map (Value.int .i64)).toArray t fr)).heap[w.heap.size]? = some (.cells (l.map (Value.int .i64)).toArray t fr) := heap_new w _
  rw [Nat.zero_add]
  simp only [World.cell?, this]
  simp [hi]
theorem St.iat {ty : TypeId} {W w : World} {L : List Th} {p g zc : Nat} {m : Mp} {b c : Nat} {hosts : List Int} (h : St W w (thDir ty W.heap.size p g zc m (some ⟨b, 0, none⟩) hosts.length c :: thInts W.heap.size b c hosts :: L)) : IAtD w (some ⟨b, 0, none⟩) hosts := thInts.at (h.drop.head)
theorem apply_at {W w : World} {L : List Th} {p g zc : Nat} {m : Mp} {b c' : Nat} {hosts : List Int} (h : St W w (thDir 76 W.heap.size p g zc m (some ⟨b, 0, none⟩) hosts.length c' :: thInts W.heap.size b c' hosts :: L)) (hI : Inv m) (hhm : hosts.length ≤ 1000) (c : Ch) (r : Option Mp) (hr : applyM hosts m c = r) :
    Calls Try.prog 15 #[.pointer (some ⟨p, 0, none⟩), .agg #[.int .i64 c.kind, .int .i64 c.zone, .int .i64 c.epoch, .int .i64 c.tt, .string c.key]] w (ChPost 76 W p m (some ⟨b, 0, none⟩) hosts.length c' (thInts W.heap.size b c' hosts :: L) r) := by
  subst hr; exact apply_any h hI h.iat hhm c
def mk1 : Mp := ⟨2, 3, [⟨1, z0, z0, 8, 1, 1, 0, ⟨#[109]⟩, 2⟩]⟩
def mk2 : Mp := ⟨3, 3, [⟨1, z0, ⟨#[109]⟩, 8, 2, 0, 0, z0, 0⟩, ⟨2, ⟨#[109]⟩, z0, 8, 2, 0, 0, z0, 0⟩]⟩
theorem known1 : applyM [8] (firstM 8) ⟨1, 1, 0, 0, ⟨#[109]⟩⟩ = some mk1 := by kernel_rfl
theorem known2 : applyM [8] mk1 ⟨4, 1, 1, 0, z0⟩ = some mk2 := by kernel_rfl
theorem in8 : ∀ n ∈ [(8 : Int)], 1 ≤ n ∧ n ≤ 1048576 := by simp
theorem first8 : Inv (firstM 8) := first_inv (by decide) (by decide)
theorem mk1_inv : Inv mk1 := apply_inv in8 first8 known1
set_option maxRecDepth 20000 in
set_option maxHeartbeats 2000000 in
theorem known_any (w : World) : Calls Try.prog 17 #[] w fun e w' => e = .returned (.bool true) ∧ Below w.heap.size w w' := by
  have S0 : Hid (St w (w.alloc (.cells #[.int .i64 8] 3)) []) := (St.start w).grow (below_allocO w _)
  have hia : Hid (IAtD (w.alloc (.cells #[.int .i64 8] 3)) (some ⟨w.heap.size, 0, none⟩) [8]) := iat_lit w _ rfl [8] 3 (0, 0)
  go_enter Try.func17, Try.ntmps17
  go_wp2_with fail
  refine (new_any S0.out (some ⟨w.heap.size, 0, none⟩) 1 [8] hia.out (by decide)).mono ?_
  intro e w1 h1
  unfold NewPost at h1
  rw [if_pos (by decide +kernel)] at h1
  obtain ⟨p, g, zc, b, c', rfl, hS⟩ := h1
  have S1 := Lib.hid hS
  clear S0 hia hS
  go_wp2_with fail
  refine (apply_at S1.out first8 (by decide) ⟨1, 1, 0, 0, ⟨#[109]⟩⟩ _ known1).mono ?_
  rintro e w2 ⟨g2, zc2, rfl, hS⟩
  have S2 : Hid (St w w2 (thDir 76 w.heap.size p g2 zc2 mk1 (some ⟨b, 0, none⟩) 1 c' :: thInts w.heap.size b c' [8] :: [])) := hS
  clear S1 hS
  go_wp2_with fail
  refine (apply_at S2.out mk1_inv (by decide) ⟨4, 1, 1, 0, z0⟩ _ known2).mono ?_
  rintro e w3 ⟨g3, zc3, rfl, hS⟩
  have S3 : Hid (St w w3 (thDir 76 w.heap.size p g3 zc3 mk2 (some ⟨b, 0, none⟩) 1 c' :: thInts w.heap.size b c' [8] :: [])) := hS
  clear S2 hS
  go_wp2_with fail
  refine (map_any S3.out.head (by decide) (by decide)).mono ?_
  rintro e w4 ⟨g4, c4, he, ho, hb⟩
  have he' : e = .returned (.agg #[.int .i64 3, .int .i64 3, .slice (some ⟨g4, 0, none⟩) 2 c4]) := he
  subst he'
  have n1 := ho.at.nine 1 (by decide) _ rfl
  obtain ⟨f1, f2, f3, f4⟩ := ho.facts
  have w4_b := S3.out.b.trans (hb.mono S3.out.b.size)
  have w4_le := w4_b.size
  have d1 : w4.cell? ⟨g4, 10, none⟩ = some (.string ⟨#[109]⟩) := n1.2.1
  have d4 : w4.cell? ⟨g4, 13, none⟩ = some (.int .i64 2) := n1.2.2.2.2.1
  have c4n : (2 : Nat) ≤ c4 := f3
  clear he n1 ho hb S3 f1 f3
  go_wp2_with fail
  go_ret
  exact ⟨rfl, (by repeat (first | with_reducible exact Below.refl _ _ | with_reducible assumption | with_reducible refine Below.drew ?_ | with_reducible refine below_drawn ?_ | with_reducible refine Below.alloc ?_ (by first | omega | (simp; done) | (simp; omega) | (simp at *; omega)) _ | with_reducible refine Below.setCell ?_ (by first | omega | (simp; done) | (simp; omega) | (simp at *; omega)) _ | with_reducible refine Below.trans ?_ (Below.mono (by assumption) (by first | omega | (simp; done) | (simp; omega) | (simp at *; omega)))))⟩
end Go.Proofs.Ytobnibdeimiinaa
