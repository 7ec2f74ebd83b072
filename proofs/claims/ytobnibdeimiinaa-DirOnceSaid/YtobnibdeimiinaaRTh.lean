/- A region that draws: an empty row, what is laid behind it, and a row of zones that is made beside, in whatever order. -/
import Derived.Test.YtobnibdeimiinaaRIn
import Derived.Test.YtobnibdeimiinaaFour
namespace Go.Proofs.Ytobnibdeimiinaa
open Go.RowKit

def frA (a : Act) (sA sB sC : Tmp) (vA vB vC : Option Value) : Act := putO (putO (putO a sA vA) sB vB) sC vC
theorem three_at {P : Program} {md : Region.Mode} {ops : Array Oper} {Q : Exit → Act → World → Prop} {S : World → Prop} {n : Nat} {a : Act} {w0 : World} (sA sB sC : Tmp) (M : Bool → Bool → Bool → Array Bool) (I : Option Value → Option Value → Option Value → World → Prop) (iA iB iC : Nat)
    (r000 : Region.ready md ops (M false false false) = [iA, iC]) (r100 : Region.ready md ops (M true false false) = [iB, iC]) (r110 : Region.ready md ops (M true true false) = [iC]) (r001 : Region.ready md ops (M false false true) = [iA]) (r101 : Region.ready md ops (M true false true) = [iB])
    (mA : ∀ b, (M false false b).setIfInBounds iA true = M true false b)
    (mB : ∀ b, (M true false b).setIfInBounds iB true = M true true b)
    (mC : ∀ b c, (M b c false).setIfInBounds iC true = M b c true)
    (h0 : I none none none w0)
    (hA : ∀ vC w, I none none vC w → ∀ K : Act → World → Prop, (∀ v w', S w' → I (some v) none vC w' → K (frA a sA sB sC (some v) none vC) w') → wpOp P ops Q iA K (frA a sA sB sC none none vC) w)
    (hB : ∀ vA vC w, I (some vA) none vC w → ∀ K : Act → World → Prop, (∀ v w', S w' → I (some vA) (some v) vC w' → K (frA a sA sB sC (some vA) (some v) vC) w') → wpOp P ops Q iB K (frA a sA sB sC (some vA) none vC) w)
    (hC : ∀ vA vB w, I vA vB none w → (vB.isSome = true → vA.isSome = true) → ∀ K : Act → World → Prop, (∀ v w', S w' → I vA vB (some v) w' → K (frA a sA sB sC vA vB (some v)) w') → wpOp P ops Q iC K (frA a sA sB sC vA vB none) w)
    (hend : ∀ vA vB vC w, I (some vA) (some vB) (some vC) w → wpAnyH P md ops Q S n (M true true true) (frA a sA sB sC (some vA) (some vB) (some vC)) w) :
    wpAnyH P md ops Q S (n + 3) (M false false false) a w0 := by
  refine wpAnyH_all r000 (by simp) (fun i hi => ?_)
  simp at hi
  rcases hi with rfl | rfl
  · refine hA none w0 h0 _ (fun v1 w1 hS1 hI1 => ⟨hS1, (mA false).symm ▸ ?_⟩)
    refine wpAnyH_all r100 (by simp) (fun i hi => ?_)
    simp at hi
    rcases hi with rfl | rfl
    · refine hB v1 none w1 hI1 _ (fun v2 w2 hS2 hI2 => ⟨hS2, (mB false).symm ▸ ?_⟩)
      refine wpAnyH_all r110 (by simp) (fun i hi => ?_)
      simp at hi
      subst hi
      exact hC (some v1) (some v2) w2 hI2 (by simp) _ (fun v3 w3 hS3 hI3 => ⟨hS3, (mC true true).symm ▸ hend v1 v2 v3 w3 hI3⟩)
    · refine hC (some v1) none w1 hI1 (by simp) _ (fun v2 w2 hS2 hI2 => ⟨hS2, (mC true false).symm ▸ ?_⟩)
      refine wpAnyH_all r101 (by simp) (fun i hi => ?_)
      simp at hi
      subst hi
      exact hB v1 (some v2) w2 hI2 _ (fun v3 w3 hS3 hI3 => ⟨hS3, (mB true).symm ▸ hend v1 v3 v2 w3 hI3⟩)
  · refine hC none none w0 h0 (by simp) _ (fun v1 w1 hS1 hI1 => ⟨hS1, (mC false false).symm ▸ ?_⟩)
    refine wpAnyH_all r001 (by simp) (fun i hi => ?_)
    simp at hi
    subst hi
    refine hA (some v1) w1 hI1 _ (fun v2 w2 hS2 hI2 => ⟨hS2, (mA true).symm ▸ ?_⟩)
    refine wpAnyH_all r101 (by simp) (fun i hi => ?_)
    simp at hi
    subst hi
    exact hB v2 (some v1) w2 hI2 _ (fun v3 w3 hS3 hI3 => ⟨hS3, (mB true).symm ▸ hend v2 v3 v1 w3 hI3⟩)
/-- What holds between the operations. -/
structure RI (wo : World) (i q : Nat) (l ad : List Zn) (vA vB vC : Option Value) (w : World) : Prop where
  b : Below wo.heap.size wo w
  eA : ∀ x, vA = some x → vB = none → ∃ g, x = .slice (some ⟨g, 0, none⟩) 0 0 ∧ wo.heap.size ≤ g ∧ g < w.heap.size ∧ OwnV w wo.heap.size x 0 []
  eB : ∀ x, vB = some x → OwnV w wo.heap.size x i (l.take i)
  eC : ∀ x, vC = some x → ∃ g, x = .slice (some ⟨g, 0, none⟩) q q ∧ wo.heap.size ≤ g ∧ g < w.heap.size ∧ ZCells w g ad
  ne : ∀ x y, vA = some x → vB = none → vC = some y → x.ownBlock ≠ y.ownBlock
theorem OwnV.grow {w w' : World} {base n : Nat} {v : Value} {l : List Zn} (h : OwnV w base v n l) (b : Below w.heap.size w w') : OwnV w' base v n l := by
  refine ⟨h.1, ?_⟩
  rcases h.2 with h2 | ⟨g, c, cur, hv, hg, hh, r⟩
  · exact .inl h2
  · exact .inr ⟨g, c, cur, hv, hg, (b.block g (lt_of_block hh)).trans hh, r⟩
theorem ZCells.grow {w w' : World} {b : Nat} {l : List Zn} (h : ZCells w b l) (hb : b < w.heap.size) (k : Below w.heap.size w w') : ZCells w' b l := by
  intro ad had j u hu
  have := h ad had j u hu
  obtain rfl : ad = ⟨b, 0, none⟩ := by simpa using had.symm
  rw [add_none] at this ⊢
  exact (k.cell (p := ⟨b, _, none⟩) hb).trans this
theorem RI.start (wo : World) (i q : Nat) (l ad : List Zn) : RI wo i q l ad none none none wo.drew := ⟨(Below.refl _ _).drew, (fun _ e => nomatch e), (fun _ e => nomatch e), (fun _ e => nomatch e), (fun _ _ e => nomatch e)⟩
theorem RI.newA {wo w : World} {i q : Nat} {l ad : List Zn} {vC : Option Value} (h : RI wo i q l ad none none vC w) : RI wo i q l ad (some (.slice (some ⟨w.heap.size, 0, none⟩) 0 0)) none vC (w.alloc (.cells #[] 39)) := by
  have b := below_allocO w (.cells #[] 39)
  have hle := h.b.size
  refine ⟨h.b.trans (b.mono hle), fun x e _ => ?_, (fun _ e => nomatch e), fun x e => ?_, fun x y e1 _ e2 => ?_⟩
  · obtain rfl := Option.some.inj e
    exact ⟨w.heap.size, rfl, hle, by simp, owns_emptyAt w w.heap.size rfl wo.heap.size hle 39 9⟩
  · obtain ⟨g, h1, h2, h3, h4⟩ := h.eC x e
    exact ⟨g, h1, h2, by simp; omega, h4.alloc _⟩
  · obtain rfl := Option.some.inj e1
    obtain ⟨g, h1, h2, h3, h4⟩ := h.eC y e2
    rw [h1]
    simp only [Value.ownBlock, ne_eq, Option.some.injEq]
    omega
theorem RI.newC {wo w : World} {i q : Nat} {l ad : List Zn} {vA vB : Option Value} {vs : Array Value} (h : RI wo i q l ad vA vB none w) (hv : vs.toList = znR ad) : RI wo i q l ad vA vB (some (.slice (some ⟨w.heap.size, 0, none⟩) q q)) (w.alloc (.cells vs 39)) := by
  have b := below_allocO w (.cells vs 39)
  have hle := h.b.size
  refine ⟨h.b.trans (b.mono hle), fun x e e2 => ?_, fun x e => (h.eB x e).alloc _, fun x e => ?_, fun x y e1 e3 e2 => ?_⟩
  · obtain ⟨g, h1, h2, h3, h4⟩ := h.eA x e e2
    exact ⟨g, h1, h2, by simp; omega, h4.alloc _⟩
  · obtain rfl := Option.some.inj e
    exact ⟨w.heap.size, rfl, hle, by simp, zcells_new w _ rfl vs ad hv⟩
  · obtain rfl := Option.some.inj e2
    obtain ⟨g, h1, h2, h3, h4⟩ := h.eA x e1 e3
    rw [h1]
    simp only [Value.ownBlock, ne_eq, Option.some.injEq]
    omega
theorem RI.stepB {wo w w' : World} {i q : Nat} {l ad : List Zn} {vA v' : Value} {vC : Option Value} (h : RI wo i q l ad (some vA) none vC w) (hown : w'.ownsRow wo.heap.size 39 9 v' (0 + i) ([] ++ znR (l.take i))) (hg : w.grownBy w' vA.ownBlock) : RI wo i q l ad (some vA) (some v') vC w' := by
  obtain ⟨g, h1, h2, h3, h4⟩ := h.eA vA rfl rfl
  refine ⟨below_grown h.b h.b.size hg (fun k hk => ?_), (fun _ _ e => nomatch e), fun x e => ?_, fun x e => ?_, (fun _ _ _ e => nomatch e)⟩
  · rw [h1] at hk
    simp only [Value.ownBlock, Option.some.injEq] at hk
    omega
  · obtain rfl := Option.some.inj e
    rw [Nat.zero_add, List.nil_append] at hown
    exact hown
  · obtain ⟨g2, k1, k2, k3, k4⟩ := h.eC x e
    have hne := h.ne vA x rfl rfl e
    rw [k1] at hne
    simp only [Value.ownBlock] at hne
    exact ⟨g2, k1, k2, Nat.lt_of_lt_of_le k3 hg.size, k4.grown k3 hg hne⟩
end Go.Proofs.Ytobnibdeimiinaa
