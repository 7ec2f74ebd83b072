/- What DirBytes needs, in plain Lean; the posts of the codecs in one form. -/
import Derived.Test.YtobnibdeimiinaaOHm
import Derived.Test.YtobnibdeimiinaaOCh
namespace Go.Proofs.Ytobnibdeimiinaa.O
open Go.RowKit
set_option maxRecDepth 20000

theorem size_data (s : ByteArray) : s.data.toList.length = s.size := by rw [Array.length_toList]; rfl
theorem mayM_MB {m : Mp} (h : mayM m = true) (hs : SzB m) : MB m := by
  have h' := h
  unfold mayM at h'
  simp only [Bool.and_eq_true, decide_eq_true_eq] at h'
  obtain ⟨⟨h1, h2, h3, h4, h5⟩, h6, -⟩ := h'
  refine ⟨⟨by omega, by omega⟩, ⟨by omega, by omega⟩, by omega, fun z hz => ?_⟩
  obtain ⟨i, hi, rfl⟩ := List.mem_iff_getElem.1 hz
  obtain ⟨a1, a2⟩ := zone_at h6 hi
  have hsz := hs.2 _ hz
  have a1' := a1
  unfold headB at a1'
  rw [decide_eq_true_eq] at a1'
  obtain ⟨b1, b2, -, b4, b5, b6, b7⟩ := a1'
  have hk : (0 ≤ m.zs[i].pend ∧ m.zs[i].pend ≤ 3) ∧ (0 ≤ m.zs[i].tt ∧ m.zs[i].tt ≤ 1048576) ∧ (0 ≤ m.zs[i].nw ∧ m.zs[i].nw ≤ 1099511627776) := by
    unfold kindB at a2
    split at a2
    · rw [decide_eq_true_eq] at a2; omega
    · split at a2
      · rw [decide_eq_true_eq] at a2; omega
      · split at a2
        · unfold splitsB at a2
          simp only [Bool.and_eq_true, decide_eq_true_eq] at a2
          omega
        · split at a2
          · unfold mergesB at a2
            cases hf : findZ m.zs m.zs[i].nw with
            | none => rw [hf] at a2; cases a2
            | some j =>
              rw [hf] at a2
              simp only [Bool.and_eq_true, decide_eq_true_eq] at a2
              obtain ⟨y, hy, hyid, -⟩ := find_some hf
              obtain ⟨hjl, hje⟩ := List.getElem?_eq_some_iff.1 hy
              have hj := (zone_at h6 hjl).1
              unfold headB at hj
              rw [decide_eq_true_eq, hje, hyid] at hj
              omega
          · cases a2
  refine ⟨⟨by omega, by omega⟩, ⟨by omega, by omega⟩, ⟨by omega, by omega⟩, ⟨by omega, by omega⟩, ⟨by omega, by omega⟩, ⟨by omega, by omega⟩, ?_, ?_, ?_⟩
  · rw [size_data]; omega
  · rw [size_data]; omega
  · rw [size_data]; omega
theorem good_enc {m : Mp} (h : mayM m = true) (hs : SzB m) : goodM (encM m) = true ∧ (decM (encM m)).1 = m := by
  have e := dec_enc (mayM_MB h hs)
  unfold goodM
  rw [e]
  exact ⟨by rw [h]; rfl, rfl⟩
theorem goodC_enc {c : Ch} (h : mayC c = true) : goodC (encC c) = true ∧ (decC (encC c)).1 = c := by
  have e := decC_enc h
  unfold goodC
  rw [e]
  exact ⟨by rw [h]; rfl, rfl⟩
/-- What is handed out, in one form. -/
def xM (l : List UInt8) : Mp := if goodM l = true then (decM l).1 else ⟨0, 0, []⟩
def eM (l : List UInt8) : Int := if goodM l = true then 0 else 3
def xC (l : List UInt8) : Ch := if goodC l = true then (decC l).1 else ⟨0, 0, 0, 0, ⟨#[]⟩⟩
def eC (l : List UInt8) : Int := if goodC l = true then 0 else 3
def xE (c : Ch) : List UInt8 := if mayC c = true then encC c else []
def eE (c : Ch) : Int := if mayC c = true then 0 else 1
theorem decM_one {w : World} {l : List UInt8} {e : Ending} {w' : World} (h : DecMPost w l (.int .i64 0) (.int .i64 3) e w') : Below w.heap.size w w' ∧ ∃ zo zc, e = .returned (.tuple #[.agg #[.int .i64 (xM l).ver, .int .i64 (xM l).next, .slice zo (xM l).zs.length zc], .int .i64 (eM l)]) ∧ ZsAt w' zo (xM l).zs := by
  obtain ⟨hb, h⟩ := h
  refine ⟨hb, ?_⟩
  unfold xM eM
  split at h
  · rename_i hg
    obtain ⟨zo, zc, he, hz, -⟩ := h
    rw [if_pos hg, if_pos hg]
    exact ⟨zo, zc, he, hz⟩
  · rename_i hg
    rw [if_neg hg, if_neg hg]
    exact ⟨none, 0, h, fun hp => by simp at hp⟩
theorem decC_one {w : World} {l : List UInt8} {e : Ending} {w' : World} (h : DecCPost w l (.int .i64 0) (.int .i64 3) e w') : Below w.heap.size w w' ∧ e = .returned (.tuple #[.agg #[.int .i64 (xC l).kind, .int .i64 (xC l).zone, .int .i64 (xC l).epoch, .int .i64 (xC l).tt, .string (xC l).key], .int .i64 (eC l)]) := by
  obtain ⟨hb, h⟩ := h
  refine ⟨hb, ?_⟩
  unfold xC eC
  split at h
  · rename_i hg
    rw [if_pos hg, if_pos hg]
    exact h
  · rename_i hg
    rw [if_neg hg, if_neg hg]
    exact h
theorem encC_one {w : World} {c : Ch} {e : Ending} {w' : World} (h : EncCPost w c e w') : Below w.heap.size w w' ∧ ∃ ao cap, e = .returned (.tuple #[.slice ao (xE c).length cap, .int .i64 (eE c)]) ∧ BAt w' ao (xE c) ∧ (ao = none → (xE c).length = 0 ∧ cap = 0) := by
  obtain ⟨hb, h⟩ := h
  refine ⟨hb, ?_⟩
  unfold xE eE
  split at h
  · rename_i hg
    rw [if_pos hg, if_pos hg]
    obtain ⟨ao, cap, he, ho⟩ := h
    exact ⟨ao, cap, he, ho.at, ho.none⟩
  · rename_i hg
    rw [if_neg hg, if_neg hg]
    exact ⟨none, 0, h, BAt.nil, fun _ => ⟨rfl, rfl⟩⟩
theorem xE_length (c : Ch) : (xE c).length ≤ 100 := by
  unfold xE
  split
  · rename_i h
    have h1 := encs_length [c.kind, c.zone, c.epoch, c.tt]
    have h2 := encS_length c.key
    have h3 := mayC_key h
    unfold encC
    rw [List.length_append]
    simp only [List.length_cons, List.length_nil] at h1
    omega
  · simp
theorem encM_length {m : Mp} (h : LtB m.zs) : (encM m).length ≤ 18000 := by
  have h1 := encs_length [m.ver, m.next, (m.zs.length : Int)]
  obtain ⟨hl, hz⟩ := h
  have h2 : ∀ l : List Zn, (∀ z ∈ l, z.fr.size ≤ 60 ∧ z.to.size ≤ 60 ∧ z.key.size ≤ 60) → (l.flatMap encZ).length ≤ 270 * l.length := by
    intro l
    induction l with
    | nil => intro _; simp
    | cons z r ih =>
      intro hz
      have a := ih fun y hy => hz y (by simp [hy])
      obtain ⟨b1, b2, b3⟩ := hz z (by simp)
      have c1 := encs_length [z.id]
      have c2 := encs_length [z.owner, z.epoch, z.pend, z.tt]
      have c3 := encs_length [z.nw]
      have c4 := encS_length z.fr
      have c5 := encS_length z.to
      have c6 := encS_length z.key
      have e : (encZ z).length ≤ 270 := by
        unfold encZ
        simp only [List.length_append, List.length_cons, List.length_nil] at c1 c2 c3 ⊢
        omega
      simp only [List.flatMap_cons, List.length_append, List.length_cons]
      omega
  have h3 := h2 m.zs hz
  unfold encM
  rw [List.length_append]
  simp only [List.length_cons, List.length_nil] at h1
  omega
theorem rdZs_len : ∀ (k : Nat) (s : Rs), 9 * (rdZs k s).1.length ≤ s.1.length + 9
  | 0, s => by simp [rdZs]
  | k + 1, s => by
    rw [rdZs_succ]
    by_cases hb : s.2 = true
    · rw [if_pos hb]; simp
    · rw [if_neg hb]
      have ih := rdZs_len k (s6 s)
      simp only [List.length_cons]
      cases h6 : (s6 s).2 with
      | false =>
        have := s6_less h6
        omega
      | true =>
        have : (rdZs k (s6 s)).1 = [] := by
          cases k with
          | zero => rfl
          | succ k => rw [rdZs_succ, if_pos h6]
        rw [this]
        simp
theorem xM_length (l : List UInt8) : 9 * (xM l).zs.length ≤ l.length + 9 := by
  unfold xM
  split
  · have h1 := rdZs_len (rdVal l false 2) (rdSt l false 3)
    have h2 := rdSt_le l false 3
    have h3 : (decM l).1.zs = (rdZs (rdVal l false 2) (rdSt l false 3)).1 := rfl
    rw [h3]
    omega
  · simp
end Go.Proofs.Ytobnibdeimiinaa.O
