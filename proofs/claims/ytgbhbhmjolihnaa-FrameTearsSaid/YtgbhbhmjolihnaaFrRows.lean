/- Plain: records one behind the other, whole or cut short. -/
import Derived.Test.YtgbhbhmjolihnaaFrPlain
import Derived.Test.YtgbhbhmjolihnaaRws
namespace Go.Proofs.Ytgbhbhmjolihnaa

def framesB (P : List (List UInt8)) : List UInt8 := P.flatMap frameB
theorem framesB_next (P : List (List UInt8)) (k : Nat) (h : k < P.length) : framesB (P.take (k + 1)) = framesB (P.take k) ++ frameB P[k] := by
  unfold framesB
  rw [List.take_succ_eq_append_getElem h, List.flatMap_append]
  simp
theorem framesB_cons (p : List UInt8) (P : List (List UInt8)) : framesB (p :: P) = frameB p ++ framesB P := rfl
theorem scan_frames (rest : List UInt8) : ∀ (P : List (List UInt8)), (∀ p ∈ P, p.length ≤ 1048576) → scanB (framesB P ++ rest) = (P ++ (scanB rest).1, (framesB P).length + (scanB rest).2)
  | [], _ => by simp [framesB]
  | p :: P, h => by
    have hd := dec_frame p (framesB P ++ rest) (h p (by simp))
    have e : framesB (p :: P) ++ rest = frameB p ++ (framesB P ++ rest) := by rw [framesB_cons, List.append_assoc]
    rw [e, scanB_next (by rw [hd]), hd]
    have hdrop : (frameB p ++ (framesB P ++ rest)).drop (p.length + 12) = framesB P ++ rest := List.drop_left' (frameB_length p)
    simp only [hdrop]
    rw [scan_frames rest P fun q hq => h q (by simp [hq])]
    simp only [framesB_cons, List.length_append, frameB_length, List.cons_append]
    congr 1
    omega
theorem scan_all (P : List (List UInt8)) (h : ∀ p ∈ P, p.length ≤ 1048576) : scanB (framesB P) = (P, (framesB P).length) := by
  have := scan_frames [] P h
  rw [List.append_nil] at this
  rw [this]
  have h0 : scanB [] = ([], 0) := scanB_stop (.inl rfl)
  rw [h0]
  simp
/-- A record that is cut short is none. -/
theorem dec_short (p : List UInt8) (hp : p.length ≤ 1048576) (j : Nat) (hj : j < p.length + 12) : (decB ((frameB p).take j)).2.2 ≠ 0 := by
  intro h
  have hl : ((frameB p).take j).length = j := by rw [List.length_take, frameB_length]; omega
  unfold decB at h
  rw [hl] at h
  by_cases h1 : j < 8
  · rw [if_pos h1] at h; cases h
  rw [if_neg h1] at h
  have e : (frameB p).take j = headB p.length ++ (p ++ fourB (sumOf (headB p.length ++ p))).take (j - 8) := by
    simp only [frameB, List.append_assoc]
    rw [List.take_append, List.take_of_length_le (by rw [headB_length]; omega), headB_length]
  have hu : unFour ((frameB p).take j) = p.length := by
    rw [e]; simp only [headB, List.append_assoc]; exact unFour_four _ (by omega) _
  have hh : ((frameB p).take j).take 8 = headB p.length := by rw [e]; exact List.take_left' (headB_length _)
  rw [hu, hh, if_neg (by simp), if_neg (by omega), if_pos (by omega)] at h
  cases h
theorem scan_cut (P : List (List UInt8)) (h : ∀ p ∈ P, p.length ≤ 1048576) (p : List UInt8) (hp : p.length ≤ 1048576) (j : Nat) (hj : j < p.length + 12) : scanB (framesB P ++ (frameB p).take j) = (P, (framesB P).length) := by
  rw [scan_frames _ P h, scanB_stop (.inr (dec_short p hp j hj))]
  simp
/-- Rows that lie behind an address: some from the beginning on. -/
theorem RsAt.take {w : World} {D : Nat → Prop} {ao : Option Addr} {L : List RowR} (h : RsAt w D ao L) (n : Nat) : RsAt w D ao (L.take n) := fun hp => by
  rw [List.length_take] at hp
  obtain ⟨b, off, e, hb, hd, hr⟩ := h (by omega)
  refine ⟨b, off, e, hb, hd, fun i hi => ?_⟩
  rw [List.length_take] at hi
  rw [List.getElem_take]
  exact hr i (by omega)
end Go.Proofs.Ytgbhbhmjolihnaa
