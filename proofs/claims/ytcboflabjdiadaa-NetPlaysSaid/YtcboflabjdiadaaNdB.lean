/- Both Nets at once, by what their messages say. -/
import Derived.Test.YtcboflabjdiadaaRNd
namespace Go.Proofs.Ytcboflabjdiadaa
open Go.RowKit

/-- The program's Net at p says C, the document's at x says D. -/
def Both (W w : World) (p x : Nat) (C D : List Ct) (R : List Th) : Prop := ∃ ro rc l ro2 rc2 l2, l.map ct = C ∧ (∀ m ∈ l, m.bs.length ≤ 140737488351232) ∧ l.length ≤ 1024 ∧ l2.map ct = D ∧ (∀ m ∈ l2, m.bs.length ≤ 140737488351232) ∧ l2.length ≤ 1024 ∧ St W w (netnetL W.heap.size p ro rc l ++ (netrefL W.heap.size x ro2 rc2 l2 ++ R))
theorem swap3 (A B R : List Th) : (A ++ (B ++ R)).Perm (B ++ (A ++ R)) := by
  rw [← List.append_assoc, ← List.append_assoc]; exact List.Perm.append_right _ List.perm_append_comm
theorem Both.net {W w : World} {p x : Nat} {C D : List Ct} {R : List Th} (h : Both W w p x C D R) : ∃ L, NetAt W w p C (L ++ R) ∧ ∀ w' C' A, NetAt W w' p C' (A ++ (L ++ R)) → Both W w' p x C' D (A ++ R) := by
  obtain ⟨ro, rc, l, ro2, rc2, l2, h1, h2, h3, h4, h5, h6, hS⟩ := h
  refine ⟨netrefL W.heap.size x ro2 rc2 l2, ⟨ro, rc, l, h1, h2, h3, hS⟩, ?_⟩
  rintro w' C' A ⟨ro', rc', l', k1, k2, k3, kS⟩
  exact ⟨ro', rc', l', ro2, rc2, l2, k1, k2, k3, h4, h5, h6, kS.perm (List.Perm.append_left _ (by rw [← List.append_assoc, ← List.append_assoc]; exact List.Perm.append_right _ List.perm_append_comm))⟩
theorem Both.ref {W w : World} {p x : Nat} {C D : List Ct} {R : List Th} (h : Both W w p x C D R) : ∃ L, RefAt W w x D (L ++ R) ∧ ∀ w' D' A, RefAt W w' x D' (A ++ (L ++ R)) → Both W w' p x C D' (A ++ R) := by
  obtain ⟨ro, rc, l, ro2, rc2, l2, h1, h2, h3, h4, h5, h6, hS⟩ := h
  refine ⟨netnetL W.heap.size p ro rc l, ⟨ro2, rc2, l2, h4, h5, h6, hS.perm (by rw [← List.append_assoc, ← List.append_assoc]; exact List.Perm.append_right _ List.perm_append_comm)⟩, ?_⟩
  rintro w' D' A ⟨ro', rc', l', k1, k2, k3, kS⟩
  refine ⟨ro, rc, l, ro', rc', l', h1, h2, h3, k1, k2, k3, kS.perm ?_⟩
  have e1 : List.Perm (netrefL W.heap.size x ro' rc' l' ++ (A ++ (netnetL W.heap.size p ro rc l ++ R))) (netrefL W.heap.size x ro' rc' l' ++ (netnetL W.heap.size p ro rc l ++ (A ++ R))) := List.Perm.append_left _ (by rw [← List.append_assoc, ← List.append_assoc]; exact List.Perm.append_right _ List.perm_append_comm)
  exact e1.trans (swap3 _ _ _)
theorem Both.grow {W w w' : World} {p x : Nat} {C D : List Ct} {R : List Th} (h : Both W w p x C D R) (b : Below w.heap.size w w') : Both W w' p x C D R := by
  obtain ⟨ro, rc, l, ro2, rc2, l2, h1, h2, h3, h4, h5, h6, hS⟩ := h
  exact ⟨ro, rc, l, ro2, rc2, l2, h1, h2, h3, h4, h5, h6, hS.grow b⟩
theorem Both.b {W w : World} {p x : Nat} {C D : List Ct} {R : List Th} (h : Both W w p x C D R) : Below W.heap.size W w := by
  obtain ⟨ro, rc, l, ro2, rc2, l2, h1, h2, h3, h4, h5, h6, hS⟩ := h
  exact hS.b
/-- What the acts answer, and what the messages say then. -/
def twC (C : List Ct) (pick : Int) : Bool × List Ct := if h : 0 < C.length ∧ C.length < 1024 then (true, C ++ [C[pickOf C.length pick]'(pickOf_lt h.1 pick)]) else (false, C)
def laC (C : List Ct) (pick : Int) : Bool × List Ct := if h : 0 < C.length then (true, C.eraseIdx (pickOf C.length pick) ++ [C[pickOf C.length pick]'(pickOf_lt h pick)]) else (false, C)
def spC (C : List Ct) (pick at_ : Int) (y : UInt8) : Bool × List Ct := if h : 0 < C.length then spoilC C (pickOf C.length pick) (pickOf_lt h pick) at_ y else (false, C)
def NetPost (W : World) (p x : Nat) (r : Bool × List Ct) (D : List Ct) (R : List Th) (e : Ending) (w' : World) : Prop := e = .returned (.bool r.1) ∧ Both W w' p x r.2 D R
def RefPost (W : World) (p x : Nat) (C : List Ct) (r : Bool × List Ct) (R : List Th) (e : Ending) (w' : World) : Prop := e = .returned (.bool r.1) ∧ Both W w' p x C r.2 R
theorem NetAt.none {W w : World} {p : Nat} {C : List Ct} {R : List Th} (h : NetAt W w p C R) (h0 : ¬ 0 < C.length) (pick : Int) : ∀ w', Below w.heap.size w w' → Calls Try.prog 26 #[.pointer (some ⟨p, 0, none⟩), .int .i64 pick] w' fun e w'' => e = .returned (.tuple #[.int .i64 0, .bool false]) ∧ w' = w'' := by
  obtain rfl : C = [] := List.length_eq_zero_iff.1 (by omega)
  exact picked_none_ct h pick
theorem len_b {W w : World} {p x : Nat} {C D : List Ct} {R : List Th} (h : Both W w p x C D R) :
    Calls Try.prog 15 #[.pointer (some ⟨p, 0, none⟩)] w fun e w' => e = .returned (.int .i64 C.length) ∧ w = w' := by
  obtain ⟨L, hN, -⟩ := h.net
  exact len_ct hN
theorem rlen_b {W w : World} {p x : Nat} {C D : List Ct} {R : List Th} (h : Both W w p x C D R) :
    Calls Try.prog 22 #[.pointer (some ⟨x, 0, none⟩)] w fun e w' => e = .returned (.int .i64 D.length) ∧ w = w' := by
  obtain ⟨L, hN, -⟩ := h.ref
  exact rlen_ct hN
theorem late_b {W w : World} {p x : Nat} {C D : List Ct} {R : List Th} (h : Both W w p x C D R) (pick : Int) :
    Calls Try.prog 12 #[.pointer (some ⟨p, 0, none⟩), .int .i64 pick] w (NetPost W p x (laC C pick) D R) := by
  obtain ⟨L, hN, hb⟩ := h.net
  unfold laC NetPost
  by_cases h0 : 0 < C.length
  · rw [dif_pos h0]
    refine (late_ct hN pick _ (pickOf_lt h0 pick) rfl).mono ?_
    rintro e w' ⟨rfl, hN'⟩
    exact ⟨rfl, hb _ _ [] hN'⟩
  · rw [dif_neg h0]
    refine (late_none _ pick w (hN.none h0 pick)).mono ?_
    rintro e w' ⟨rfl, hg⟩
    exact ⟨rfl, h.grow hg⟩
theorem rlate_b {W w : World} {p x : Nat} {C D : List Ct} {R : List Th} (h : Both W w p x C D R) (pick : Int) :
    Calls Try.prog 32 #[.pointer (some ⟨x, 0, none⟩), .int .i64 pick] w (RefPost W p x C (laC D pick) R) := by
  obtain ⟨L, hN, hb⟩ := h.ref
  unfold laC RefPost
  by_cases h0 : 0 < D.length
  · rw [dif_pos h0]
    refine (rlate_ct hN pick _ (pickOf_lt h0 pick) rfl).mono ?_
    rintro e w' ⟨rfl, hN'⟩
    exact ⟨rfl, hb _ _ [] hN'⟩
  · rw [dif_neg h0]
    obtain rfl : D = [] := List.length_eq_zero_iff.1 (by omega)
    refine (rlatenone_ct hN pick).mono ?_
    rintro e w' ⟨rfl, hN'⟩
    exact ⟨rfl, hb _ _ [] hN'⟩
theorem twice_b {W w : World} {p x : Nat} {C D : List Ct} {R : List Th} (h : Both W w p x C D R) (pick : Int) :
    Calls Try.prog 17 #[.pointer (some ⟨p, 0, none⟩), .int .i64 pick] w (NetPost W p x (twC C pick) D R) := by
  obtain ⟨L, hN, hb⟩ := h.net
  unfold twC NetPost
  by_cases h0 : 0 < C.length ∧ C.length < 1024
  · rw [dif_pos h0]
    refine (twice_ct hN pick _ (pickOf_lt h0.1 pick) rfl h0.2).mono ?_
    rintro e w' ⟨rfl, hN'⟩
    exact ⟨rfl, hb _ _ [] hN'⟩
  · rw [dif_neg h0]
    by_cases h1 : 0 < C.length
    · refine (twicefull_ct hN pick (by omega)).mono ?_
      rintro e w' ⟨rfl, hg⟩
      exact ⟨rfl, h.grow hg⟩
    · refine (twice_none _ pick w (hN.none h1 pick w (Below.refl _ _))).mono ?_
      rintro e w' ⟨rfl, hg⟩
      exact ⟨rfl, h.grow hg⟩
theorem rtwice_b {W w : World} {p x : Nat} {C D : List Ct} {R : List Th} (h : Both W w p x C D R) (pick : Int) :
    Calls Try.prog 31 #[.pointer (some ⟨x, 0, none⟩), .int .i64 pick] w (RefPost W p x C (twC D pick) R) := by
  obtain ⟨L, hN, hb⟩ := h.ref
  unfold twC RefPost
  by_cases h0 : 0 < D.length ∧ D.length < 1024
  · rw [dif_pos h0]
    refine (rtwice_ct hN pick _ (pickOf_lt h0.1 pick) rfl h0.2).mono ?_
    rintro e w' ⟨rfl, hN'⟩
    exact ⟨rfl, hb _ _ [] hN'⟩
  · rw [dif_neg h0]
    by_cases h1 : 0 < D.length
    · refine (rtwicefull_ct hN pick (by omega)).mono ?_
      rintro e w' ⟨rfl, hg⟩
      exact ⟨rfl, h.grow hg⟩
    · obtain rfl : D = [] := List.length_eq_zero_iff.1 (by omega)
      refine (rtwicenone_ct hN pick).mono ?_
      rintro e w' ⟨rfl, hN'⟩
      exact ⟨rfl, hb _ _ [] hN'⟩
theorem spoil_b {W w : World} {p x : Nat} {C D : List Ct} {R : List Th} (h : Both W w p x C D R) (pick at_ : Int) (y : UInt8) :
    Calls Try.prog 19 #[.pointer (some ⟨p, 0, none⟩), .int .i64 pick, .int .i64 at_, .int .u8 (y.toNat : Int)] w (NetPost W p x (spC C pick at_ y) D R) := by
  obtain ⟨L, hN, hb⟩ := h.net
  unfold spC NetPost
  by_cases h0 : 0 < C.length
  · rw [dif_pos h0]
    refine (spoil_ct hN pick at_ y _ (pickOf_lt h0 pick) rfl).mono ?_
    rintro e w' ⟨rfl, hN'⟩
    exact ⟨rfl, hb _ _ [] hN'⟩
  · rw [dif_neg h0]
    refine (spoil_none _ pick at_ y w (hN.none h0 pick w (Below.refl _ _))).mono ?_
    rintro e w' ⟨rfl, hg⟩
    exact ⟨rfl, h.grow hg⟩
theorem rspoil_b {W w : World} {p x : Nat} {C D : List Ct} {R : List Th} (h : Both W w p x C D R) (pick at_ : Int) (y : UInt8) :
    Calls Try.prog 33 #[.pointer (some ⟨x, 0, none⟩), .int .i64 pick, .int .i64 at_, .int .u8 (y.toNat : Int)] w (RefPost W p x C (spC D pick at_ y) R) := by
  obtain ⟨L, hN, hb⟩ := h.ref
  unfold spC RefPost
  by_cases h0 : 0 < D.length
  · rw [dif_pos h0]
    refine (rspoil_ct hN pick at_ y _ (pickOf_lt h0 pick) rfl).mono ?_
    rintro e w' ⟨rfl, hN'⟩
    exact ⟨rfl, hb _ _ [] hN'⟩
  · rw [dif_neg h0]
    obtain rfl : D = [] := List.length_eq_zero_iff.1 (by omega)
    refine (rspoilnone_ct hN pick at_ y).mono ?_
    rintro e w' ⟨rfl, hN'⟩
    exact ⟨rfl, hb _ _ [] hN'⟩
def drC (C : List Ct) (nl : List Int) : Int := (C.length : Int) - (keptC nl C).length
theorem drop_b {W w : World} {p x : Nat} {C D : List Ct} {R : List Th} (h : Both W w p x C D R) (no : Option Addr) (nc : Nat) (nl : List Int) (hN : ∀ w' X, St W w' (X ++ R) → IntsAt w' no nl) (k : Nat) (hk : k = nl.length) (hNm : nl.length ≤ 9223372036854775807) :
    Calls Try.prog 23 #[.pointer (some ⟨p, 0, none⟩), .slice no k nc] w fun e w' => e = .returned (.int .i64 (drC C nl)) ∧ Both W w' p x (keptC nl C) D R := by
  obtain ⟨L, hA, hb⟩ := h.net
  refine (drop_ct hA no nc nl (fun w' X hS => hN w' (X ++ L) (by rw [List.append_assoc]; exact hS)) k hk hNm).mono ?_
  rintro e w' ⟨rfl, hN'⟩
  exact ⟨rfl, hb _ _ [] hN'⟩
theorem rdrop_b {W w : World} {p x : Nat} {C D : List Ct} {R : List Th} (h : Both W w p x C D R) (no : Option Addr) (nc : Nat) (nl : List Int) (hN : ∀ w' X, St W w' (X ++ R) → IntsAt w' no nl) (k : Nat) (hk : k = nl.length) (hNm : nl.length ≤ 9223372036854775807) :
    Calls Try.prog 34 #[.pointer (some ⟨x, 0, none⟩), .slice no k nc] w fun e w' => e = .returned (.int .i64 (drC D nl)) ∧ Both W w' p x C (keptC nl D) R := by
  obtain ⟨L, hA, hb⟩ := h.ref
  refine (rdrop_ct hA no nc nl (fun w' X hS => hN w' (X ++ L) (by rw [List.append_assoc]; exact hS)) k hk hNm).mono ?_
  rintro e w' ⟨rfl, hN'⟩
  exact ⟨rfl, hb _ _ [] hN'⟩
theorem Both.mem {W w : World} {p x : Nat} {C D : List Ct} {R : List Th} (h : Both W w p x C D R) {t : Th} (ht : t ∈ R) : t.T w := by
  obtain ⟨L, hN, -⟩ := h.net
  exact hN.mem (List.mem_append.2 (.inr ht))
theorem Both.obj {W w : World} {p x : Nat} {C D : List Ct} {R : List Th} (h : Both W w p x C D R) (o : Obj) : Both W (w.alloc o) p x C D (thObj w.heap.size o :: R) := by
  obtain ⟨L, hN, hb⟩ := h.net
  exact hb _ _ [_] (hN.obj o)
theorem Both.drop {W w : World} {p x : Nat} {C D : List Ct} {R : List Th} {t : Th} (h : Both W w p x C D (t :: R)) : Both W w p x C D R := by
  obtain ⟨ro, rc, l, ro2, rc2, l2, h1, h2, h3, h4, h5, h6, hS⟩ := h
  have e : netnetL W.heap.size p ro rc l ++ (netrefL W.heap.size x ro2 rc2 l2 ++ t :: R) = (netnetL W.heap.size p ro rc l ++ netrefL W.heap.size x ro2 rc2 l2) ++ t :: R := (List.append_assoc _ _ _).symm
  rw [e] at hS
  exact ⟨ro, rc, l, ro2, rc2, l2, h1, h2, h3, h4, h5, h6, by have := hS.pull.drop; rwa [List.append_assoc] at this⟩
/-- An act in a block of the call's own. -/
def actO (k n m y : Value) (mo : Option Addr) (ml mc : Nat) : Obj := .cells #[k, n, m, y, .slice mo ml mc] 26
theorem act_cells {B : Nat} {w : World} {k n m y : Value} {mo : Option Addr} {ml mc : Nat} (h : (thObj B (actO k n m y mo ml mc)).T w) :
    w.cell? ⟨B, 0, none⟩ = some k ∧ w.cell? ⟨B, 1, none⟩ = some n ∧ w.cell? ⟨B, 2, none⟩ = some m ∧ w.cell? ⟨B, 3, none⟩ = some y ∧ w.cell? ⟨B, 4, none⟩ = some (.slice mo ml mc) ∧ B < w.heap.size := by
  have hc := (cells_of_obj h).1
  exact ⟨hc 0, hc 1, hc 2, hc 3, hc 4, lt_of_block h⟩
end Go.Proofs.Ytcboflabjdiadaa
