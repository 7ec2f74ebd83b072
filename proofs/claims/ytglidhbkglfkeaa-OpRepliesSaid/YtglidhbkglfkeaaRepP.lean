/- A reply: what it may be; as bytes and back, in plain Lean. -/
import Derived.Test.YtglidhbkglfkeaaPlain
import Derived.Test.YtglidhbkglfkeaaBackOp
namespace Go.Proofs.Ytglidhbkglfkeaa
open Go.RowKit

structure Rp where
  err : Int
  id : Int
  i : It
def mayR (r : Rp) : Bool := decide (0 ≤ r.err ∧ r.err ≤ 19 ∧ 0 ≤ r.id ∧ r.id ≤ 1099511627776) && isI r.i
def encItB (i : It) : List UInt8 := encs [i.a, i.b, i.c, i.d]
def encP (r : Rp) : List UInt8 := encs [r.err, r.id] ++ encItB r.i
/-- Items from a place on. -/
def itAt (r : List UInt8) (b : Bool) : It := ⟨rdVal r b 0, rdVal r b 1, rdVal r b 2, rdVal r b 3⟩
def rpOf (l : List UInt8) : Rp := ⟨rdVal l false 0, rdVal l false 1, ⟨rdVal l false 2, rdVal l false 3, rdVal l false 4, rdVal l false 5⟩⟩
def wholeP (l : List UInt8) : Bool := !(rdSt l false 6).2 && (rdSt l false 6).1.isEmpty
def goodP (l : List UInt8) : Bool := wholeP l && mayR (rpOf l)
theorem mayR_iff (r : Rp) : mayR r = true ↔ (0 ≤ r.err ∧ r.err ≤ 19 ∧ 0 ≤ r.id ∧ r.id ≤ 1099511627776) ∧ isI r.i = true := by simp [mayR]
theorem rd_six (n0 n1 n2 n3 n4 n5 : Nat) (h0 : n0 ≤ 4611686018427387904) (h1 : n1 ≤ 4611686018427387904) (h2 : n2 ≤ 4611686018427387904) (h3 : n3 ≤ 4611686018427387904) (h4 : n4 ≤ 4611686018427387904) (h5 : n5 ≤ 4611686018427387904) (l : List UInt8) (hl : l = encN n0 ++ (encN n1 ++ (encN n2 ++ (encN n3 ++ (encN n4 ++ (encN n5 ++ [])))))) :
    rdVal l false 0 = n0 ∧ rdVal l false 1 = n1 ∧ rdVal l false 2 = n2 ∧ rdVal l false 3 = n3 ∧ rdVal l false 4 = n4 ∧ rdVal l false 5 = n5 ∧ rdSt l false 6 = ([], false) := by
  subst hl
  refine ⟨?_, ?_, ?_, ?_, ?_, ?_, ?_⟩
  · rw [rdVal_enc0 _ _ _ h0]
  · rw [rdVal_enc _ _ _ 0 h0, rdVal_enc0 _ _ _ h1]
  · rw [rdVal_enc _ _ _ 1 h0, rdVal_enc _ _ _ 0 h1, rdVal_enc0 _ _ _ h2]
  · rw [rdVal_enc _ _ _ 2 h0, rdVal_enc _ _ _ 1 h1, rdVal_enc _ _ _ 0 h2, rdVal_enc0 _ _ _ h3]
  · rw [rdVal_enc _ _ _ 3 h0, rdVal_enc _ _ _ 2 h1, rdVal_enc _ _ _ 1 h2, rdVal_enc _ _ _ 0 h3, rdVal_enc0 _ _ _ h4]
  · rw [rdVal_enc _ _ _ 4 h0, rdVal_enc _ _ _ 3 h1, rdVal_enc _ _ _ 2 h2, rdVal_enc _ _ _ 1 h3, rdVal_enc _ _ _ 0 h4, rdVal_enc0 _ _ _ h5]
  · rw [rdSt_enc _ _ _ 5 h0, rdSt_enc _ _ _ 4 h1, rdSt_enc _ _ _ 3 h2, rdSt_enc _ _ _ 2 h3, rdSt_enc _ _ _ 1 h4, rdSt_enc _ _ _ 0 h5]
    rfl
theorem encP_eq (r : Rp) : encP r = encN (clampN r.err) ++ (encN (clampN r.id) ++ (encN (clampN r.i.a) ++ (encN (clampN r.i.b) ++ (encN (clampN r.i.c) ++ (encN (clampN r.i.d) ++ []))))) := by
  simp only [encP, encItB, encs, List.flatMap_cons, List.flatMap_nil, List.append_nil, List.append_assoc]
theorem rpOf_enc {r : Rp} (h : mayR r = true) : goodP (encP r) = true ∧ rpOf (encP r) = r := by
  have hm := h
  rw [mayR_iff] at hm
  obtain ⟨h1, h2⟩ := hm
  rw [isI_iff] at h2
  obtain ⟨v0, v1, v2, v3, v4, v5, st⟩ := rd_six _ _ _ _ _ _ (clampN_le _) (clampN_le _) (clampN_le _) (clampN_le _) (clampN_le _) (clampN_le _) (encP r) (encP_eq r)
  have e : rpOf (encP r) = r := by
    unfold rpOf
    rw [v0, v1, v2, v3, v4, v5]
    obtain ⟨err, id, a, b, c, d⟩ := r
    simp only at h1 h2
    simp only [Rp.mk.injEq, It.mk.injEq]
    exact ⟨clampN_of (by omega) (by omega), clampN_of (by omega) (by omega), clampN_of (by omega) (by omega), clampN_of (by omega) (by omega), clampN_of (by omega) (by omega), clampN_of (by omega) (by omega)⟩
  refine ⟨?_, e⟩
  unfold goodP wholeP
  rw [e, h, st]
  rfl
theorem encP_len (r : Rp) : (encs [r.err, r.id]).length ≤ 20 ∧ (encItB r.i).length ≤ 40 := by
  have h1 := encs_length [r.err, r.id]
  have h2 := encs_length [r.i.a, r.i.b, r.i.c, r.i.d]
  simp only [encItB, List.length_cons, List.length_nil] at h1 h2 ⊢
  omega
def zRp : Rp := ⟨0, 0, ⟨0, 0, 0, 0⟩⟩
def repR (l : List UInt8) : Rp := if goodP l = true then rpOf l else zRp
def repE (l : List UInt8) : Int := if goodP l = true then 0 else 3
end Go.Proofs.Ytglidhbkglfkeaa
