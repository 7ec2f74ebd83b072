/- The document's Reader as a thing that stays apart; its contracts by the state behind k numbers. -/
import Derived.Test.YtbkagefapmnojaaRdNums
import Derived.Test.YtbkagefapmnojaaRefRdBytes
namespace Go.Proofs.Ytbkagefapmnojaa
open Go.RowKit

theorem St.newRR {W w w' : World} {L : List Th} {p g : Nat} {rest : List UInt8} (h : St W w L) (hr : RRAt w' p g rest false) (hb : Below w.heap.size w w') (hp : w.heap.size ≤ p) (hg : w.heap.size ≤ g) : St W w' (thRR p g rest false :: L) :=
  h.new hb _ hr (fun x hx => by
    rcases hx with hx | ⟨hx, -⟩ <;> omega)
theorem St.readR {W w w' : World} {L : List Th} {p g : Nat} {rest rest' : List UInt8} {bad bad' : Bool} (h : St W w (thRR p g rest bad :: L)) (hr : RRAt w' p g rest' bad') (k : Keeps w w' (fun x => x = p)) (hl : rest'.length ≤ rest.length) : St W w' (thRR p g rest' bad' :: L) :=
  h.step (k.weak (fun _ _ h => .inl h)) _ hr (fun x hx => by
    rcases hx with hx | ⟨hx, h1⟩
    · exact .inl (.inl hx)
    · exact .inl (.inr ⟨hx, by omega⟩))
theorem St.readOwnR {W w w' : World} {L : List Th} {p g : Nat} {rest rest' x : List UInt8} {bad bad' : Bool} {ao : Option Addr} {cap : Nat} (h : St W w (thRR p g rest bad :: L)) (hr : RRAt w' p g rest' bad') (k : Keeps w w' (fun x => x = p)) (hl : rest'.length ≤ rest.length) (ho : OwnB w' w.heap.size ao cap x) : St W w' (thOwn w.heap.size ao cap x :: thRR p g rest' bad' :: L) := by
  have h2 := h.readR hr k hl
  refine ⟨h2.b, ho, fun y hy => ?_, fun u hu y hy huy => ?_, h2.t⟩
  · obtain ⟨a, rfl, rfl⟩ := hy
    exact Nat.le_trans h.b.size (own_lt ho a.block rfl).2
  · have hwy : w.heap.size ≤ y := by
      obtain ⟨a, rfl, rfl⟩ := hy
      exact (own_lt ho a.block rfl).2
    rcases List.mem_cons.1 hu with e | e
    · subst e
      have : (thRR p g rest bad).F y := by
        rcases huy with e | ⟨e, h1⟩
        · exact .inl e
        · exact .inr ⟨e, by omega⟩
      have := (h.t.lts _ (by simp) y this).1
      omega
    · have := (h.t.lts u (by simp [e]) y huy).1
      omega
theorem rr_new {w1 : World} {base c : Nat} {bo : Option Addr} {bs : List UInt8} (ho : OwnB w1 base bo c bs) (hb : base ≤ w1.heap.size) : ∃ g, RRAt (w1.alloc (.cells #[.slice bo bs.length c, .bool false] 50)) w1.heap.size g bs false ∧ base ≤ g := by
  by_cases hp : 0 < bs.length
  · obtain ⟨g, e, hbg, hlt, hr⟩ := ho.row hp
    exact ⟨g, ⟨fun h => (nomatch h), bo, c, heap_new _ _, ho.le.1, ho.le.2, ho.none, by omega, fun _ => ⟨0, e, by simp; omega, hr.below hlt ((Below.refl _ _).alloc (Nat.le_refl _) _)⟩⟩, hbg⟩
  · exact ⟨w1.heap.size + 1, ⟨fun h => (nomatch h), bo, c, heap_new _ _, ho.le.1, ho.le.2, ho.none, by omega, fun h => absurd h hp⟩, by omega⟩
theorem rrnum_k (p g : Nat) (rest : List UInt8) (bad : Bool) (k : Nat) (w : World) (h : RRAt w p g (rdSt rest bad k).1 (rdSt rest bad k).2) (hm : rest.length ≤ 140737488351232) :
    Calls Try.prog 38 #[.pointer (some ⟨p, 0, none⟩)] w fun e w' => e = .returned (.int .i64 (rdVal rest bad k : Nat)) ∧ RRAt w' p g (rdSt rest bad (k + 1)).1 (rdSt rest bad (k + 1)).2 ∧ Keeps w w' (fun x => x = p) := by
  refine (rrnum_any p g _ _ w h (Nat.le_trans (rdSt_le rest bad k) hm)).mono ?_
  rintro e w' ⟨h1, h2, h3⟩
  unfold rdVal
  simp only [rdSt]
  unfold numT
  cases ho : numOf (rdSt rest bad k).1 with
  | none => exact ⟨(h2 ho).1, (h2 ho).2, h3⟩
  | some o =>
    obtain ⟨n, r⟩ := o
    exact ⟨(h1 n r ho).1, (h1 n r ho).2, h3⟩
theorem rdnum_k (p g : Nat) (rest : List UInt8) (bad : Bool) (k : Nat) (w : World) (h : RdAt w p g (rdSt rest bad k).1 (rdSt rest bad k).2) (hm : rest.length ≤ 140737488351232) :
    Calls Try.prog 36 #[.pointer (some ⟨p, 0, none⟩)] w fun e w' => e = .returned (.int .i64 (rdVal rest bad k : Nat)) ∧ RdAt w' p g (rdSt rest bad (k + 1)).1 (rdSt rest bad (k + 1)).2 ∧ Keeps w w' (fun x => x = p) :=
  rdnum_t p g _ _ w h (Nat.le_trans (rdSt_le rest bad k) hm)
/-- So many bytes taken as they are. -/
def rawT (rest : List UInt8) (bad : Bool) (n : Int) : List UInt8 × List UInt8 × Bool := if 0 ≤ n ∧ n ≤ rest.length then (rest.take n.toNat, rest.drop n.toNat, bad) else ([], [], true)
theorem rawT_le (rest : List UInt8) (bad : Bool) (n : Int) : (rawT rest bad n).1.length ≤ rest.length ∧ (rawT rest bad n).2.1.length ≤ rest.length := by
  unfold rawT
  split
  · simp only [List.length_take, List.length_drop]; omega
  · simp
theorem rrraw_t (p g : Nat) (rest : List UInt8) (bad : Bool) (n : Int) (w : World) (h : RRAt w p g rest bad) (hm : rest.length ≤ 140737488351232) :
    Calls Try.prog 42 #[.pointer (some ⟨p, 0, none⟩), .int .i64 n] w fun e w' => ∃ ao cap, e = .returned (.slice ao (rawT rest bad n).1.length cap) ∧ OwnB w' w.heap.size ao cap (rawT rest bad n).1 ∧ RRAt w' p g (rawT rest bad n).2.1 (rawT rest bad n).2.2 ∧ Keeps w w' (fun x => x = p) := by
  by_cases hn : 0 ≤ n ∧ n ≤ rest.length
  · obtain ⟨k, rfl⟩ : ∃ k : Nat, n = k := ⟨n.toNat, by omega⟩
    simp only [rawT, if_pos hn, Int.toNat_natCast]
    cases bad with
    | true =>
      obtain rfl := h.1 rfl
      obtain rfl : k = 0 := by simpa using hn
      refine (rrraw_bad p g w h).mono ?_
      rintro e w' ⟨rfl, rfl⟩
      exact ⟨none, 0, rfl, own_nothing _ _, h, Keeps.refl _ _⟩
    | false =>
      refine (rrraw_yes p g rest k w h (by omega) hm).mono ?_
      rintro e w' ⟨ao, cap, rfl, ho, hr, hk⟩
      refine ⟨ao, cap, ?_, ho, hr, hk⟩
      rw [List.length_take, Nat.min_eq_left (by omega)]
  · simp only [rawT, if_neg hn]
    refine (rrraw_no p g rest bad n w h (by omega)).mono ?_
    rintro e w' ⟨rfl, hr, hk⟩
    exact ⟨none, 0, rfl, own_nothing _ _, hr, hk⟩
theorem tookOf_le {rest x r' : List UInt8} {bad b' : Bool} (h : (x, r', b') = tookOf rest bad) : x.length ≤ rest.length ∧ r'.length ≤ rest.length := by
  unfold tookOf bytesOf at h
  cases ho : numOf rest with
  | none => rw [ho] at h; simp at h; obtain ⟨rfl, rfl, -⟩ := h; simp
  | some o =>
    obtain ⟨n, r⟩ := o
    obtain ⟨hl, -⟩ := numOf_left ho
    rw [ho] at h
    simp only at h
    by_cases hc : n ≤ r.length
    · simp only [hc, if_true, Prod.mk.injEq] at h
      obtain ⟨rfl, rfl, -⟩ := h
      simp only [List.length_take, List.length_drop]; omega
    · simp only [hc, if_false, Prod.mk.injEq] at h
      obtain ⟨rfl, rfl, -⟩ := h
      simp
theorem quiet_left {P : Program} {f : FuncId} {args : Array Value} {w : World} {n : Nat} {v : Value}
    (h : Calls P f args (w.drewN n) fun e w' => e = .returned v ∧ w.drewN n = w') : Calls P f args (w.drewN n) fun e w'' => e = .returned v ∧ ∃ m, w'' = w.drewN m :=
  h.mono fun _ _ ⟨he, hm⟩ => ⟨he, n, hm.symm⟩
theorem rr_cell0 {w : World} {p g : Nat} {rest : List UInt8} {bad : Bool} (h : RRAt w p g rest bad) : ∃ ao cap, w.cell? ⟨p, 0, none⟩ = some (.slice ao rest.length cap) ∧ w.cell? ⟨p, 1, none⟩ = some (.bool bad) := by
  obtain ⟨-, ao, cap, hh, -⟩ := h
  exact ⟨ao, cap, (cell_of_two hh).1, (cell_of_two hh).2.1⟩
theorem whole_z (p g : Nat) (rest : List UInt8) (bad z : Bool) (w : World) (n : Nat) (hz : z = (!bad && rest.isEmpty)) (h : RdAt (w.drewN n) p g rest bad) (hm : rest.length ≤ 140737488351232) :
    Calls Try.prog 28 #[.pointer (some ⟨p, 0, none⟩)] (w.drewN n) fun e w'' => e = .returned (.bool z) ∧ ∃ m, w'' = w.drewN m := by
  subst hz
  exact quiet_left (whole_any p g rest bad _ h hm)
theorem rrwhole_z (p g : Nat) (rest : List UInt8) (bad z : Bool) (w : World) (n : Nat) (hz : z = (!bad && rest.isEmpty)) (h : RRAt (w.drewN n) p g rest bad) :
    Calls Try.prog 31 #[.pointer (some ⟨p, 0, none⟩)] (w.drewN n) fun e w'' => e = .returned (.bool z) ∧ ∃ m, w'' = w.drewN m := by
  subst hz
  exact Calls.quiet_of_same (rrwhole_any p g rest bad _ h)
end Go.Proofs.Ytbkagefapmnojaa
