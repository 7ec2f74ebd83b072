/- Things that stay apart, in whatever order. -/
import Derived.Test.YtcboflabjdiadaaThs
namespace Go.Proofs.Ytcboflabjdiadaa
open Go.RowKit

theorem Ths.perm {B : Nat} {w : World} {L L' : List Th} (h : L.Perm L') : Ths B w L → Ths B w L' := by
  induction h with
  | nil => exact id
  | cons t hp ih => exact fun hl => ⟨hl.1, hl.2.1, fun u hu => hl.2.2.1 u (hp.mem_iff.2 hu), ih hl.2.2.2⟩
  | swap t u r =>
    intro hl
    obtain ⟨h1, h2, h3, h4, h5, h6, h7⟩ := hl
    refine ⟨h4, h5, fun v hv x hx => ?_, h1, h2, fun v hv => h3 v (by simp [hv]), h7⟩
    rcases List.mem_cons.1 hv with e | e
    · subst e; exact fun hux => h3 t (by simp) x hux hx
    · exact h6 v e x hx
  | trans _ _ ih1 ih2 => exact fun hl => ih2 (ih1 hl)
theorem St.perm {W w : World} {L L' : List Th} (h : St W w L) (p : L.Perm L') : St W w L' := ⟨h.b, h.t.perm p⟩
theorem St.mem {W w : World} {L : List Th} (h : St W w L) {t : Th} (ht : t ∈ L) : t.T w := by
  obtain ⟨A, R, rfl⟩ := List.append_of_mem ht
  exact (h.pull).head
end Go.Proofs.Ytcboflabjdiadaa
