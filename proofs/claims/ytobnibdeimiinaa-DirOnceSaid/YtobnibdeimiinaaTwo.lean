/- A region that draws, of reads, two allocs in whatever order and two stores behind. -/
import Derived.Test.YtobnibdeimiinaaDDs
namespace Go.Proofs.Ytobnibdeimiinaa
open Go.RowKit

def frT (a : Act) (s10 s11 : Tmp) (v10 v11 : Option Value) : Act := putO (putO a s10 v10) s11 v11
theorem two_at {P : Program} {md : Region.Mode} {ops : Array Oper} {Q : Exit → Act → World → Prop} {S : World → Prop} {n : Nat} {a : Act} {w0 : World} (s10 s11 : Tmp) (M : Bool → Bool → Array Bool) (I : Option Value → Option Value → World → Prop) (i10 i11 : Nat)
    (hr : ∀ b10 b11, (b10 && b11) = false → Region.ready md ops (M b10 b11) = (if b10 then [] else [i10]) ++ (if b11 then [] else [i11]))
    (m10 : ∀ b11, (M false b11).setIfInBounds i10 true = M true b11)
    (m11 : ∀ b10, (M b10 false).setIfInBounds i11 true = M b10 true)
    (h0 : I none none w0)
    (h10 : ∀ v11 w, I none v11 w → ∀ K : Act → World → Prop, (∀ v w', S w' → I (some v) v11 w' → K (frT a s10 s11 (some v) v11) w') → wpOp P ops Q i10 K (frT a s10 s11 none v11) w)
    (h11 : ∀ v10 w, I v10 none w → ∀ K : Act → World → Prop, (∀ v w', S w' → I v10 (some v) w' → K (frT a s10 s11 v10 (some v)) w') → wpOp P ops Q i11 K (frT a s10 s11 v10 none) w)
    (hend : ∀ v10 v11 w, I (some v10) (some v11) w → wpAnyH P md ops Q S n (M true true) (frT a s10 s11 (some v10) (some v11)) w) :
    wpAnyH P md ops Q S (n + 2) (M false false) a w0 := by
  refine wpAnyH_all (hr false false (by simp)) (by simp) (fun i hi => ?_)
  simp at hi
  rcases hi with rfl | rfl
  · refine h10 none w0 h0 _ (fun v w' hS hI => ⟨hS, (m10 false).symm ▸ ?_⟩)
    refine wpAnyH_all (hr true false (by simp)) (by simp) (fun i hi => ?_)
    simp at hi
    subst hi
    exact h11 (some v) w' hI _ (fun u w'' hS' hI' => ⟨hS', (m11 true).symm ▸ hend _ _ _ hI'⟩)
  · refine h11 none w0 h0 _ (fun v w' hS hI => ⟨hS, (m11 false).symm ▸ ?_⟩)
    refine wpAnyH_all (hr false true (by simp)) (by simp) (fun i hi => ?_)
    simp at hi
    subst hi
    exact h10 (some v) w' hI _ (fun u w'' hS' hI' => ⟨hS', (m10 true).symm ▸ hend _ _ _ hI'⟩)
end Go.Proofs.Ytobnibdeimiinaa
