/- A Net by what its messages say. -/
import Derived.Test.YtcboflabjdiadaaNetDrp
namespace Go.Proofs.Ytcboflabjdiadaa
open Go.RowKit

abbrev Ct := Int × Int × List UInt8 × Bool
/-- The Net at p has messages that say C. -/
def NetAt (W w : World) (p : Nat) (C : List Ct) (R : List Th) : Prop := ∃ ro rc l, l.map ct = C ∧ (∀ m ∈ l, m.bs.length ≤ 140737488351232) ∧ l.length ≤ 1024 ∧ St W w (netnetL W.heap.size p ro rc l ++ R)
theorem NetAt.len {W w : World} {p : Nat} {C : List Ct} {R : List Th} (h : NetAt W w p C R) : C.length ≤ 1024 := by
  obtain ⟨ro, rc, l, rfl, -, hl, -⟩ := h
  simpa using hl
theorem NetAt.grow {W w w' : World} {p : Nat} {C : List Ct} {R : List Th} (h : NetAt W w p C R) (b : Below w.heap.size w w') : NetAt W w' p C R := by
  obtain ⟨ro, rc, l, h1, h2, h3, h4⟩ := h
  exact ⟨ro, rc, l, h1, h2, h3, h4.grow b⟩
theorem NetAt.b {W w : World} {p : Nat} {C : List Ct} {R : List Th} (h : NetAt W w p C R) : Below W.heap.size W w := by
  obtain ⟨ro, rc, l, h1, h2, h3, h4⟩ := h
  exact h4.b
theorem NetAt.obj {W w : World} {p : Nat} {C : List Ct} {R : List Th} (h : NetAt W w p C R) (o : Obj) : NetAt W (w.alloc o) p C (thObj w.heap.size o :: R) := by
  obtain ⟨ro, rc, l, h1, h2, h3, h4⟩ := h
  exact ⟨ro, rc, l, h1, h2, h3, (h4.obj o).perm List.perm_middle.symm⟩
theorem NetAt.drop {W w : World} {p : Nat} {C : List Ct} {R : List Th} {t : Th} (h : NetAt W w p C (t :: R)) : NetAt W w p C R := by
  obtain ⟨ro, rc, l, h1, h2, h3, h4⟩ := h
  exact ⟨ro, rc, l, h1, h2, h3, (h4.pull).drop⟩
theorem NetAt.rest {W w : World} {p : Nat} {C : List Ct} {R : List Th} (h : NetAt W w p C R) : ∃ X, St W w (X ++ R) := by
  obtain ⟨ro, rc, l, h1, h2, h3, h4⟩ := h
  exact ⟨_, h4⟩
theorem NetAt.mem {W w : World} {p : Nat} {C : List Ct} {R : List Th} (h : NetAt W w p C R) {t : Th} (ht : t ∈ R) : t.T w := by
  obtain ⟨X, hX⟩ := h.rest
  exact hX.mem (List.mem_append.2 (.inr ht))
theorem NetAt.new (w : World) : NetAt w (w.alloc (.cells #[.slice none 0 0] 56)) w.heap.size [] [] :=
  ⟨none, 0, [], rfl, fun _ h => by simp at h, by simp, by simpa using (St.start w).newNet⟩
theorem NetAt.newIn {W w : World} {R : List Th} (h : St W w R) : NetAt W (w.alloc (.cells #[.slice none 0 0] 56)) w.heap.size [] R :=
  ⟨none, 0, [], rfl, fun _ h => by simp at h, by simp, h.newNet⟩
theorem len_ct {W w : World} {p : Nat} {C : List Ct} {R : List Th} (h : NetAt W w p C R) :
    Calls Try.prog 15 #[.pointer (some ⟨p, 0, none⟩)] w fun e w' => e = .returned (.int .i64 C.length) ∧ w = w' := by
  obtain ⟨ro, rc, l, rfl, h2, h3, h4⟩ := h
  rw [List.length_map]
  exact len_any W.heap.size p ro rc l w h4.head
theorem send_ct {W w : World} {p : Nat} {C : List Ct} {R : List Th} (h : NetAt W w p C R) (mo : Option Addr) (mc : Nat) (M : List Ms) (hM : ∀ w' X, St W w' (X ++ R) → MsAt w' mo M) (hMm : M.length ≤ 9223372036854775807) (k : Nat) (hk : k = M.length) (z : Nat) (hz : z = fits C.length k) :
    Calls Try.prog 11 #[.pointer (some ⟨p, 0, none⟩), .slice mo k mc] w fun e w' => e = .returned (.int .i64 z) ∧ NetAt W w' p (C ++ (M.take z).map ct) R := by
  obtain ⟨ro, rc, l, rfl, h2, h3, h4⟩ := h
  rw [List.length_map] at hz
  subst hk hz
  refine (send_any W w R p ro rc l mo mc M h4 h3 hM hMm).mono ?_
  rintro e w' ⟨ro', rc', N, rfl, hN, hS⟩
  have hlen := congrArg List.length hN
  rw [List.length_map, List.length_map, List.length_take] at hlen
  refine ⟨rfl, ro', rc', l ++ N, by rw [List.map_append, hN], ?_, ?_, hS⟩
  · intro m hm
    rcases List.mem_append.1 hm with hm | hm
    · exact h2 m hm
    · have : ct m ∈ (M.take (fits l.length M.length)).map ct := hN ▸ List.mem_map_of_mem hm
      obtain ⟨m', hm', e⟩ := List.mem_map.1 this
      have hm2 := List.mem_of_mem_take hm'
      obtain ⟨i, hi, rfl⟩ := List.mem_iff_getElem.1 hm2
      obtain ⟨b, off, -, -, hr⟩ := hM w _ h4 (by omega)
      have := (hr i hi).2.2.2.2.2.1
      have hbs : M[i].bs = m.bs := by simp only [ct, Prod.mk.injEq] at e; exact e.2.2.1
      rw [← hbs]; exact this
  · rw [List.length_append]; unfold fits at hlen; omega
theorem picked_none_ct {W w : World} {p : Nat} {R : List Th} (h : NetAt W w p [] R) (pick : Int) : ∀ w', Below w.heap.size w w' → Calls Try.prog 26 #[.pointer (some ⟨p, 0, none⟩), .int .i64 pick] w' fun e w'' => e = .returned (.tuple #[.int .i64 0, .bool false]) ∧ w' = w'' := by
  obtain ⟨ro, rc, l, h1, h2, h3, h4⟩ := h
  obtain rfl := List.map_eq_nil_iff.1 h1
  exact fun w' hb => picked_no W.heap.size p ro rc pick w' (h4.grow hb).head
theorem picked_nil_ct (pick : Int) (w : World) : ∀ w', Below w.heap.size w w' → Calls Try.prog 26 #[.pointer none, .int .i64 pick] w' fun e w'' => e = .returned (.tuple #[.int .i64 0, .bool false]) ∧ w' = w'' := fun w' _ => picked_nil pick w'
def LateCt (W : World) (p : Nat) (C : List Ct) (R : List Th) (e : Ending) (w' : World) : Prop := e = .returned (.bool true) ∧ NetAt W w' p C R
theorem more_ct {W : World} {p : Nat} {R : List Th} {l : List Ms} {m : Ms} (hl : ∀ x ∈ l, x.bs.length ≤ 140737488351232) (hm : m.bs.length ≤ 140737488351232) (h1 : l.length < 1024) {C : List Ct} (hC : l.map ct ++ [ct m] = C) : ∀ e w', MorePost W R p l m e w' → LateCt W p C R e w' := by
  rintro e w' ⟨ro', rc', m', rfl, hct, hS⟩
  refine ⟨rfl, ro', rc', l ++ [m'], by rw [List.map_append, ← hC, ← hct]; rfl, ?_, by simp; omega, hS⟩
  intro x hx
  rcases List.mem_append.1 hx with hx | hx
  · exact hl x hx
  · obtain rfl : x = m' := by simpa using hx
    have : x.bs = m.bs := by simp only [ct, Prod.mk.injEq] at hct; exact hct.2.2.1
    rw [this]; exact hm
theorem map_eraseIdx_ct (l : List Ms) (i : Nat) : (l.eraseIdx i).map ct = (l.map ct).eraseIdx i := by
  rw [List.eraseIdx_eq_take_drop_succ, List.eraseIdx_eq_take_drop_succ, List.map_append, List.map_take, List.map_drop]
theorem late_ct {W w : World} {p : Nat} {C : List Ct} {R : List Th} (h : NetAt W w p C R) (pick : Int) (i : Nat) (hi : i < C.length) (hpi : i = pickOf C.length pick) :
    Calls Try.prog 12 #[.pointer (some ⟨p, 0, none⟩), .int .i64 pick] w (LateCt W p (C.eraseIdx i ++ [C[i]]) R) := by
  obtain ⟨ro, rc, l, rfl, h2, h3, h4⟩ := h
  have hi2 : i < l.length := by simpa using hi
  rw [List.length_map] at hpi
  refine (late_yes W w R p ro rc l pick i hi2 hpi h4 h3 (h2 _ (List.getElem_mem hi2))).mono ?_
  exact more_ct (fun x hx => h2 x (List.mem_of_mem_eraseIdx hx)) (h2 _ (List.getElem_mem hi2)) (by rw [List.length_eraseIdx]; simp only [hi2, if_true]; omega) (by rw [map_eraseIdx_ct, List.getElem_map])
theorem twice_ct {W w : World} {p : Nat} {C : List Ct} {R : List Th} (h : NetAt W w p C R) (pick : Int) (i : Nat) (hi : i < C.length) (hpi : i = pickOf C.length pick) (hf : C.length < 1024) :
    Calls Try.prog 17 #[.pointer (some ⟨p, 0, none⟩), .int .i64 pick] w (LateCt W p (C ++ [C[i]]) R) := by
  obtain ⟨ro, rc, l, rfl, h2, h3, h4⟩ := h
  have hi2 : i < l.length := by simpa using hi
  rw [List.length_map] at hpi hf
  refine (twice_yes W w R p ro rc l pick i hi2 hpi h4 h3 (h2 _ (List.getElem_mem hi2)) hf).mono ?_
  exact more_ct h2 (h2 _ (List.getElem_mem hi2)) hf (by rw [List.getElem_map])
theorem twicefull_ct {W w : World} {p : Nat} {C : List Ct} {R : List Th} (h : NetAt W w p C R) (pick : Int) (hf : 1024 ≤ C.length) :
    Calls Try.prog 17 #[.pointer (some ⟨p, 0, none⟩), .int .i64 pick] w fun e w' => e = .returned (.bool false) ∧ Below w.heap.size w w' := by
  obtain ⟨ro, rc, l, rfl, h2, h3, h4⟩ := h
  rw [List.length_map] at hf
  exact twice_full W w R p ro rc l pick _ (pickOf_lt (by omega) pick) rfl h4 h3 hf
/-- What Give hands out. -/
def GiveCt (W : World) (p : Nat) (c : Ct) (C : List Ct) (R : List Th) (e : Ending) (w' : World) : Prop := ∃ ao cap, e = .returned (.tuple #[.agg #[.int .i64 c.1, .int .i64 c.2.1, .slice ao c.2.2.1.length cap], .bool true]) ∧ c.2.2.1.length ≤ 140737488351232 ∧ NetAt W w' p C (thOwn W.heap.size ao cap c.2.2.1 :: R)
theorem give_ct {W w : World} {p : Nat} {C : List Ct} {R : List Th} (h : NetAt W w p C R) (pick : Int) (i : Nat) (hi : i < C.length) (hpi : i = pickOf C.length pick) :
    Calls Try.prog 13 #[.pointer (some ⟨p, 0, none⟩), .int .i64 pick] w (GiveCt W p C[i] (C.eraseIdx i) R) := by
  obtain ⟨ro, rc, l, rfl, h2, h3, h4⟩ := h
  have hi2 : i < l.length := by simpa using hi
  rw [List.length_map] at hpi
  refine (give_yes W w R p ro rc l pick i hi2 hpi h4 h3).mono ?_
  rintro e w' ⟨ro', rc', rfl, hS⟩
  simp only [List.getElem_map]
  exact ⟨l[i].ao, l[i].cap, rfl, h2 _ (List.getElem_mem hi2), ro', rc', l.eraseIdx i, map_eraseIdx_ct l i, fun x hx => h2 x (List.mem_of_mem_eraseIdx hx), by rw [List.length_eraseIdx]; split <;> omega, hS.perm List.perm_middle.symm⟩
/-- What a message says of which a byte was turned. -/
def spc (c : Ct) (k : Nat) (y : UInt8) : Ct := (c.1, c.2.1, c.2.2.1.set k ((c.2.2.1[k]?.getD 0) ^^^ y), true)
/-- Spoil: whether a message is spoilt, and what they say then. -/
def spoilC (C : List Ct) (i : Nat) (hi : i < C.length) (at_ : Int) (y : UInt8) : Bool × List Ct := if y = 0 ∨ C[i].2.2.1.length = 0 ∨ C[i].2.2.2 = true then (false, C) else (true, C.set i (spc C[i] (pickOf C[i].2.2.1.length at_) y))
def SpoilCt (W : World) (p : Nat) (r : Bool × List Ct) (R : List Th) (e : Ending) (w' : World) : Prop := e = .returned (.bool r.1) ∧ NetAt W w' p r.2 R
theorem spoil_ct {W w : World} {p : Nat} {C : List Ct} {R : List Th} (h : NetAt W w p C R) (pick at_ : Int) (y : UInt8) (i : Nat) (hi : i < C.length) (hpi : i = pickOf C.length pick) :
    Calls Try.prog 19 #[.pointer (some ⟨p, 0, none⟩), .int .i64 pick, .int .i64 at_, .int .u8 (y.toNat : Int)] w (SpoilCt W p (spoilC C i hi at_ y) R) := by
  have h' := h
  obtain ⟨ro, rc, l, rfl, h2, h3, h4⟩ := h
  have hi2 : i < l.length := by simpa using hi
  rw [List.length_map] at hpi
  have hce : (l.map ct)[i] = ct l[i] := by rw [List.getElem_map]
  unfold spoilC SpoilCt
  rw [hce]
  by_cases hy : y = 0
  · rw [if_pos (.inl hy)]
    refine (spoil_zero W w R p ro rc l pick at_ y i hi2 hpi h4 h3 hy).mono ?_
    rintro e w' ⟨rfl, hb⟩
    exact ⟨rfl, h'.grow hb⟩
  by_cases hb : l[i].bs.length = 0
  · rw [if_pos (.inr (.inl hb))]
    refine (spoil_empty W w R p ro rc l pick at_ y i hi2 hpi h4 h3 hy hb).mono ?_
    rintro e w' ⟨rfl, hb⟩
    exact ⟨rfl, h'.grow hb⟩
  by_cases hs : l[i].sp = true
  · rw [if_pos (.inr (.inr hs))]
    refine (spoil_spoilt W w R p ro rc l pick at_ y i hi2 hpi h4 h3 hy hb hs).mono ?_
    rintro e w' ⟨rfl, hb⟩
    exact ⟨rfl, h'.grow hb⟩
  · rw [if_neg (by rintro (h | h | h); exact hy h; exact hb h; exact hs h)]
    refine (spoil_yes W w R p ro rc l pick at_ y i hi2 hpi h4 h3 hy hb (by simpa using hs)).mono ?_
    rintro e w' ⟨rfl, hS⟩
    refine ⟨rfl, ro, rc, _, ?_, ?_, ?_, hS⟩
    · rw [List.map_set]; rfl
    · intro m hm
      rcases List.mem_or_eq_of_mem_set hm with hm | rfl
      · exact h2 m hm
      · show (List.set _ _ _).length ≤ _
        rw [List.length_set]; exact h2 _ (List.getElem_mem hi2)
    · rw [List.length_set]; exact h3
/-- The messages that stay, by what they say. -/
def keptC (nl : List Int) (C : List Ct) : List Ct := C.filter fun c => !(nl.contains c.1 || nl.contains c.2.1)
theorem keptM_ct (nl : List Int) (l : List Ms) : (keptM nl l).map ct = keptC nl (l.map ct) := by
  unfold keptM keptC
  rw [List.filter_map]
  rfl
def DropCt (W : World) (p : Nat) (nl : List Int) (C : List Ct) (R : List Th) (e : Ending) (w' : World) : Prop := e = .returned (.int .i64 ((C.length : Int) - (keptC nl C).length)) ∧ NetAt W w' p (keptC nl C) R
theorem drop_ct {W w : World} {p : Nat} {C : List Ct} {R : List Th} (h : NetAt W w p C R) (no : Option Addr) (nc : Nat) (nl : List Int) (hN : ∀ w' X, St W w' (X ++ R) → IntsAt w' no nl) (k : Nat) (hk : k = nl.length) (hNm : nl.length ≤ 9223372036854775807) :
    Calls Try.prog 23 #[.pointer (some ⟨p, 0, none⟩), .slice no k nc] w (DropCt W p nl C R) := by
  subst hk
  have h' := h
  obtain ⟨ro, rc, l, rfl, h2, h3, h4⟩ := h
  unfold DropCt
  by_cases hl : 0 < l.length
  · refine (drop_yes W w R p ro rc l no nc nl h4 hl h3 hN hNm).mono ?_
    rintro e w' ⟨ro', rc', rfl, hS⟩
    rw [← keptM_ct, List.length_map, List.length_map]
    refine ⟨rfl, ro', rc', _, rfl, fun m hm => h2 m (List.mem_filter.1 hm).1, Nat.le_trans (List.length_filter_le _ _) h3, hS⟩
  · obtain rfl : l = [] := List.length_eq_zero_iff.1 (by omega)
    refine (drop_empty W w R p ro rc no nc nl h4).mono ?_
    rintro e w' ⟨rfl, hb⟩
    exact ⟨rfl, h'.grow hb⟩
end Go.Proofs.Ytcboflabjdiadaa
