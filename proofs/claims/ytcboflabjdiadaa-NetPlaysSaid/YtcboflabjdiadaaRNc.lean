/- The document's Net by what its messages say. -/
import Derived.Test.YtcboflabjdiadaaRNq
namespace Go.Proofs.Ytcboflabjdiadaa
open Go.RowKit

/-- The Net at p has messages that say C. -/
def RefAt (W w : World) (p : Nat) (C : List Ct) (R : List Th) : Prop := ∃ ro rc l, l.map ct = C ∧ (∀ m ∈ l, m.bs.length ≤ 140737488351232) ∧ l.length ≤ 1024 ∧ St W w (netrefL W.heap.size p ro rc l ++ R)
theorem RefAt.len {W w : World} {p : Nat} {C : List Ct} {R : List Th} (h : RefAt W w p C R) : C.length ≤ 1024 := by
  obtain ⟨ro, rc, l, rfl, -, hl, -⟩ := h
  simpa using hl
theorem RefAt.grow {W w w' : World} {p : Nat} {C : List Ct} {R : List Th} (h : RefAt W w p C R) (b : Below w.heap.size w w') : RefAt W w' p C R := by
  obtain ⟨ro, rc, l, h1, h2, h3, h4⟩ := h
  exact ⟨ro, rc, l, h1, h2, h3, h4.grow b⟩
theorem RefAt.b {W w : World} {p : Nat} {C : List Ct} {R : List Th} (h : RefAt W w p C R) : Below W.heap.size W w := by
  obtain ⟨ro, rc, l, h1, h2, h3, h4⟩ := h
  exact h4.b
theorem RefAt.obj {W w : World} {p : Nat} {C : List Ct} {R : List Th} (h : RefAt W w p C R) (o : Obj) : RefAt W (w.alloc o) p C (thObj w.heap.size o :: R) := by
  obtain ⟨ro, rc, l, h1, h2, h3, h4⟩ := h
  exact ⟨ro, rc, l, h1, h2, h3, (h4.obj o).perm List.perm_middle.symm⟩
theorem RefAt.drop {W w : World} {p : Nat} {C : List Ct} {R : List Th} {t : Th} (h : RefAt W w p C (t :: R)) : RefAt W w p C R := by
  obtain ⟨ro, rc, l, h1, h2, h3, h4⟩ := h
  exact ⟨ro, rc, l, h1, h2, h3, (h4.pull).drop⟩
theorem RefAt.rest {W w : World} {p : Nat} {C : List Ct} {R : List Th} (h : RefAt W w p C R) : ∃ X, St W w (X ++ R) := by
  obtain ⟨ro, rc, l, h1, h2, h3, h4⟩ := h
  exact ⟨_, h4⟩
theorem RefAt.mem {W w : World} {p : Nat} {C : List Ct} {R : List Th} (h : RefAt W w p C R) {t : Th} (ht : t ∈ R) : t.T w := by
  obtain ⟨X, hX⟩ := h.rest
  exact hX.mem (List.mem_append.2 (.inr ht))
theorem rlen_ct {W w : World} {p : Nat} {C : List Ct} {R : List Th} (h : RefAt W w p C R) :
    Calls Try.prog 22 #[.pointer (some ⟨p, 0, none⟩)] w fun e w' => e = .returned (.int .i64 C.length) ∧ w = w' := by
  obtain ⟨ro, rc, l, rfl, h2, h3, h4⟩ := h
  rw [List.length_map]
  exact rlen_any W.heap.size p ro rc l w h4.head
theorem rsend_ct {W w : World} {p : Nat} {C : List Ct} {R : List Th} (h : RefAt W w p C R) (mo : Option Addr) (mc : Nat) (M : List Ms) (hM : ∀ w' X, St W w' (X ++ R) → MsAt w' mo M) (hMm : M.length ≤ 9223372036854775807) (k : Nat) (hk : k = M.length) (z : Nat) (hz : z = fits C.length k) :
    Calls Try.prog 28 #[.pointer (some ⟨p, 0, none⟩), .slice mo k mc] w fun e w' => e = .returned (.int .i64 z) ∧ RefAt W w' p (C ++ (M.take z).map ct) R := by
  obtain ⟨ro, rc, l, rfl, h2, h3, h4⟩ := h
  rw [List.length_map] at hz
  subst hk hz
  refine (rsend_any W w R p ro rc l mo mc M h4 h3 hM hMm).mono ?_
  rintro e w' ⟨ro', rc', N, rfl, hN, hS⟩
  have hlen := congrArg List.length hN
  rw [List.length_map, List.length_map, List.length_take] at hlen
  refine ⟨rfl, ro', rc', l ++ N, by rw [List.map_append, hN], ?_, ?_, hS⟩
  · intro m hm
    rcases List.mem_append.1 hm with hm | hm
    · exact h2 m hm
    · have : ct m ∈ (M.take (fits l.length M.length)).map ct := hN ▸ List.mem_map_of_mem hm
      obtain ⟨m', hm', e⟩ := List.mem_map.1 this
      have hm2 := List.mem_of_mem_take hm'
      obtain ⟨i, hi, rfl⟩ := List.mem_iff_getElem.1 hm2
      obtain ⟨b, off, -, -, hr⟩ := hM w _ h4 (by omega)
      have := (hr i hi).2.2.2.2.2.1
      have hbs : M[i].bs = m.bs := by simp only [ct, Prod.mk.injEq] at e; exact e.2.2.1
      rw [← hbs]; exact this
  · rw [List.length_append]; unfold fits at hlen; omega
def RLateCt (W : World) (p : Nat) (C : List Ct) (R : List Th) (e : Ending) (w' : World) : Prop := e = .returned (.bool true) ∧ RefAt W w' p C R
theorem rmore_ct {W : World} {p : Nat} {R : List Th} {l : List Ms} {m : Ms} (hl : ∀ x ∈ l, x.bs.length ≤ 140737488351232) (hm : m.bs.length ≤ 140737488351232) (h1 : l.length < 1024) {C : List Ct} (hC : l.map ct ++ [ct m] = C) : ∀ e w', RMorePost W R p l m e w' → RLateCt W p C R e w' := by
  rintro e w' ⟨ro', rc', m', rfl, hct, hS⟩
  refine ⟨rfl, ro', rc', l ++ [m'], by rw [List.map_append, ← hC, ← hct]; rfl, ?_, by simp; omega, hS⟩
  intro x hx
  rcases List.mem_append.1 hx with hx | hx
  · exact hl x hx
  · obtain rfl : x = m' := by simpa using hx
    have : x.bs = m.bs := by simp only [ct, Prod.mk.injEq] at hct; exact hct.2.2.1
    rw [this]; exact hm
theorem rlate_ct {W w : World} {p : Nat} {C : List Ct} {R : List Th} (h : RefAt W w p C R) (pick : Int) (i : Nat) (hi : i < C.length) (hpi : i = pickOf C.length pick) :
    Calls Try.prog 32 #[.pointer (some ⟨p, 0, none⟩), .int .i64 pick] w (RLateCt W p (C.eraseIdx i ++ [C[i]]) R) := by
  obtain ⟨ro, rc, l, rfl, h2, h3, h4⟩ := h
  have hi2 : i < l.length := by simpa using hi
  rw [List.length_map] at hpi
  refine (rlate_yes W w R p ro rc l pick i hi2 hpi h4 h3).mono ?_
  exact rmore_ct (fun x hx => h2 x (List.mem_of_mem_eraseIdx hx)) (h2 _ (List.getElem_mem hi2)) (by rw [List.length_eraseIdx]; simp only [hi2, if_true]; omega) (by rw [map_eraseIdx_ct, List.getElem_map])
theorem rtwice_ct {W w : World} {p : Nat} {C : List Ct} {R : List Th} (h : RefAt W w p C R) (pick : Int) (i : Nat) (hi : i < C.length) (hpi : i = pickOf C.length pick) (hf : C.length < 1024) :
    Calls Try.prog 31 #[.pointer (some ⟨p, 0, none⟩), .int .i64 pick] w (RLateCt W p (C ++ [C[i]]) R) := by
  obtain ⟨ro, rc, l, rfl, h2, h3, h4⟩ := h
  have hi2 : i < l.length := by simpa using hi
  rw [List.length_map] at hpi hf
  refine (rtwice_yes W w R p ro rc l pick i hi2 hpi h4 hf (h2 _ (List.getElem_mem hi2))).mono ?_
  exact rmore_ct h2 (h2 _ (List.getElem_mem hi2)) hf (by rw [List.getElem_map])
theorem rtwicefull_ct {W w : World} {p : Nat} {C : List Ct} {R : List Th} (h : RefAt W w p C R) (pick : Int) (hf : 1024 ≤ C.length) :
    Calls Try.prog 31 #[.pointer (some ⟨p, 0, none⟩), .int .i64 pick] w fun e w' => e = .returned (.bool false) ∧ Below w.heap.size w w' := by
  obtain ⟨ro, rc, l, rfl, h2, h3, h4⟩ := h
  rw [List.length_map] at hf
  exact rtwice_no W w R p ro rc l pick h4 (.inr hf)
/-- What Give hands out. -/
def RGiveCt (W : World) (p : Nat) (c : Ct) (C : List Ct) (R : List Th) (e : Ending) (w' : World) : Prop := ∃ ao cap, e = .returned (.tuple #[.agg #[.int .i64 c.1, .int .i64 c.2.1, .slice ao c.2.2.1.length cap], .bool true]) ∧ c.2.2.1.length ≤ 140737488351232 ∧ RefAt W w' p C (thOwn W.heap.size ao cap c.2.2.1 :: R)
theorem rgive_ct {W w : World} {p : Nat} {C : List Ct} {R : List Th} (h : RefAt W w p C R) (pick : Int) (i : Nat) (hi : i < C.length) (hpi : i = pickOf C.length pick) :
    Calls Try.prog 30 #[.pointer (some ⟨p, 0, none⟩), .int .i64 pick] w (RGiveCt W p C[i] (C.eraseIdx i) R) := by
  obtain ⟨ro, rc, l, rfl, h2, h3, h4⟩ := h
  have hi2 : i < l.length := by simpa using hi
  rw [List.length_map] at hpi
  refine (rgive_yes W w R p ro rc l pick i hi2 hpi h4 h3).mono ?_
  rintro e w' ⟨ro', rc', rfl, hS⟩
  simp only [List.getElem_map]
  exact ⟨l[i].ao, l[i].cap, rfl, h2 _ (List.getElem_mem hi2), ro', rc', l.eraseIdx i, map_eraseIdx_ct l i, fun x hx => h2 x (List.mem_of_mem_eraseIdx hx), by rw [List.length_eraseIdx]; split <;> omega, hS.perm List.perm_middle.symm⟩
def RSpoilCt (W : World) (p : Nat) (r : Bool × List Ct) (R : List Th) (e : Ending) (w' : World) : Prop := e = .returned (.bool r.1) ∧ RefAt W w' p r.2 R
theorem rspoil_ct {W w : World} {p : Nat} {C : List Ct} {R : List Th} (h : RefAt W w p C R) (pick at_ : Int) (y : UInt8) (i : Nat) (hi : i < C.length) (hpi : i = pickOf C.length pick) :
    Calls Try.prog 33 #[.pointer (some ⟨p, 0, none⟩), .int .i64 pick, .int .i64 at_, .int .u8 (y.toNat : Int)] w (RSpoilCt W p (spoilC C i hi at_ y) R) := by
  have h' := h
  obtain ⟨ro, rc, l, rfl, h2, h3, h4⟩ := h
  have hi2 : i < l.length := by simpa using hi
  rw [List.length_map] at hpi
  have hce : (l.map ct)[i] = ct l[i] := by rw [List.getElem_map]
  unfold spoilC RSpoilCt
  rw [hce]
  by_cases hy : y = 0
  · rw [if_pos (.inl hy)]
    refine (rspoil_zero W w R p ro rc l pick at_ y i hi2 hpi h4 h3 hy).mono ?_
    rintro e w' ⟨rfl, hb⟩
    exact ⟨rfl, h'.grow hb⟩
  by_cases hs : l[i].sp = true
  · rw [if_pos (.inr (.inr hs))]
    refine (rspoil_spoilt W w R p ro rc l pick at_ y i hi2 hpi h4 h3 hy hs).mono ?_
    rintro e w' ⟨rfl, hb⟩
    exact ⟨rfl, h'.grow hb⟩
  have hs2 : l[i].sp = false := by simpa using hs
  by_cases hb : l[i].bs.length = 0
  · rw [if_pos (.inr (.inl hb))]
    refine (rspoil_empty W w R p ro rc l pick at_ y i hi2 hpi h4 h3 hy hs2 hb).mono ?_
    rintro e w' ⟨rfl, hb⟩
    exact ⟨rfl, h'.grow hb⟩
  · rw [if_neg (by rintro (h | h | h); exact hy h; exact hb h; exact hs h)]
    refine (rspoil_yes W w R p ro rc l pick at_ y i hi2 hpi h4 h3 hy hs2 hb (h2 _ (List.getElem_mem hi2))).mono ?_
    rintro e w' ⟨rfl, co, cc, hS⟩
    refine ⟨rfl, ro, rc, _, ?_, ?_, ?_, hS⟩
    · rw [List.map_set]; rfl
    · intro m hm
      rcases List.mem_or_eq_of_mem_set hm with hm | rfl
      · exact h2 m hm
      · show (List.set _ _ _).length ≤ _
        rw [List.length_set]; exact h2 _ (List.getElem_mem hi2)
    · rw [List.length_set]; exact h3
theorem St.newRef {W w : World} {R : List Th} (h : St W w R) : St W (w.alloc (.cells #[.slice none 0 0] 50)) (netrefL W.heap.size w.heap.size none 0 [] ++ R) :=
  h.new (below_allocN _ _) (thNetref W.heap.size w.heap.size none 0 []) ⟨heap_new w _, World.ownsRow_nil _ _ _ _, fun a e => by cases e⟩ (fun x hx => by
    rcases hx with rfl | ⟨a, e, -⟩
    · exact Nat.le_refl _
    · cases e)
theorem RefAt.newIn {W w : World} {R : List Th} (h : St W w R) : RefAt W (w.alloc (.cells #[.slice none 0 0] 50)) w.heap.size [] R :=
  ⟨none, 0, [], rfl, fun _ h => by simp at h, by simp, h.newRef⟩
theorem RefAt.nil {W w : World} {p : Nat} {R : List Th} (h : RefAt W w p [] R) : ∃ ro rc, St W w (netrefL W.heap.size p ro rc [] ++ R) := by
  obtain ⟨ro, rc, l, h1, h2, h3, h4⟩ := h
  obtain rfl := List.map_eq_nil_iff.1 h1
  exact ⟨ro, rc, h4⟩
theorem rgivenone_ct {W w : World} {p : Nat} {R : List Th} (h : RefAt W w p [] R) (pick : Int) :
    Calls Try.prog 30 #[.pointer (some ⟨p, 0, none⟩), .int .i64 pick] w fun e w' => e = .returned (.tuple #[zM, .bool false]) ∧ RefAt W w' p [] R := by
  obtain ⟨ro, rc, h4⟩ := h.nil
  refine (rgive_no W w R p ro rc pick h4).mono ?_
  rintro e w' ⟨rfl, hb⟩
  exact ⟨rfl, h.grow hb⟩
theorem rlatenone_ct {W w : World} {p : Nat} {R : List Th} (h : RefAt W w p [] R) (pick : Int) :
    Calls Try.prog 32 #[.pointer (some ⟨p, 0, none⟩), .int .i64 pick] w fun e w' => e = .returned (.bool false) ∧ RefAt W w' p [] R := by
  obtain ⟨ro, rc, h4⟩ := h.nil
  refine (rlate_no W w R p ro rc pick h4).mono ?_
  rintro e w' ⟨rfl, hb⟩
  exact ⟨rfl, h.grow hb⟩
theorem rtwicenone_ct {W w : World} {p : Nat} {R : List Th} (h : RefAt W w p [] R) (pick : Int) :
    Calls Try.prog 31 #[.pointer (some ⟨p, 0, none⟩), .int .i64 pick] w fun e w' => e = .returned (.bool false) ∧ RefAt W w' p [] R := by
  obtain ⟨ro, rc, h4⟩ := h.nil
  refine (rtwice_no W w R p ro rc [] pick h4 (.inl rfl)).mono ?_
  rintro e w' ⟨rfl, hb⟩
  exact ⟨rfl, h.grow hb⟩
theorem rspoilnone_ct {W w : World} {p : Nat} {R : List Th} (h : RefAt W w p [] R) (pick at_ : Int) (y : UInt8) :
    Calls Try.prog 33 #[.pointer (some ⟨p, 0, none⟩), .int .i64 pick, .int .i64 at_, .int .u8 (y.toNat : Int)] w fun e w' => e = .returned (.bool false) ∧ RefAt W w' p [] R := by
  obtain ⟨ro, rc, h4⟩ := h.nil
  refine (rspoil_none W w R p ro rc [] pick at_ y h4 rfl).mono ?_
  rintro e w' ⟨rfl, hb⟩
  exact ⟨rfl, h.grow hb⟩
end Go.Proofs.Ytcboflabjdiadaa
