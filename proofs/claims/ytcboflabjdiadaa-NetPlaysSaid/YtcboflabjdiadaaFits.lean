/- What came in is of a size that fits: the form's reach, in whatever depth. -/
import Derived.Test.YtcboflabjdiadaaOpenB
namespace Go.Proofs.Ytcboflabjdiadaa
open Go.ChangeShapes Go.WideShapes Go.Deep Go.RowKit

section
variable {H : Type} {enc : TypeId × Value → H} {W : World}
/-- All that the datum holds takes at most as many bytes as the form reaches. -/
def Fits (d : DataW H) (t : TypeId) : Prop := ∀ n ∈ d.weights Try.prog t, n ≤ reachBytes
theorem fits_top {ts : List TypeId} {ds : List (DataW H)} (hsz : (DataW.weightsEach Try.prog ts ds).all (· ≤ reachBytes) = true) {j : Nat} {t : TypeId} {d : DataW H} (ht : ts[j]? = some t) (hd : ds[j]? = some d) : Fits d t := fun n hn => by
  have := List.all_eq_true.1 hsz n (DataW.weights_mem_each ht hd n hn)
  simpa using this
theorem weights_mem_all {P : Program} {e : TypeId} : ∀ {l : List (DataW H)} {x : DataW H}, x ∈ l → ∀ n ∈ x.weights P e, n ∈ DataW.weightsAll P e l
  | d :: r, x, hx, n, hn => by
    simp only [DataW.weightsAll, List.mem_append]
    rcases List.mem_cons.1 hx with rfl | hx
    · exact .inl hn
    · exact .inr (weights_mem_all hx n hn)
theorem fits_elem {elems spare : List (DataW H)} {t e : TypeId} (h : Fits (.slice elems spare) t) (hu : Try.prog.underlying t = some (.slice e)) : (∀ x ∈ elems, Fits x e) ∧ (elems.length + spare.length) * Try.prog.bytesOf e ≤ reachBytes := by
  constructor
  · intro x hx n hn
    refine h n ?_
    simp only [DataW.weights, hu, List.mem_cons, List.mem_append]
    exact .inr (.inl (weights_mem_all hx n hn))
  · refine h _ ?_
    simp only [DataW.weights, hu, List.mem_cons, true_or]
theorem fits_part {parts : List (DataW H)} {t : TypeId} {fs : Array Field} (h : Fits (.agg parts) t) (hu : Try.prog.underlying t = some (.struct fs)) {j : Nat} {f : Field} (hf : fs[j]? = some f) {d : DataW H} (hd : parts[j]? = some d) : Fits d f.type := fun n hn => by
  refine h n ?_
  simp only [DataW.weights, hu]
  exact DataW.weights_mem_each (ts := fs.toList.map (·.type)) (j := j) (by simp [hf]) hd n hn
theorem fits_bytes {fuel base : Nat} {cs : List Value} {x : DataW H × List MemPlace} (h : DataW.trod enc Try.prog W base (fun _ => true) true fuel 33 cs = some x) (hf : Fits x.1 33) :
    ∃ ao l cap, cs = [.slice ao (l : List UInt8).length cap] ∧ l.length ≤ cap ∧ cap ≤ maxLen ∧ (ao = none → l.length = 0 ∧ cap = 0) ∧ BAt W ao l ∧ l.length ≤ 140737488351232 := by
  have h' := h
  obtain ⟨ao, l, cap, rfl, h1, h2, h3, h4⟩ := trod_bytes h
  refine ⟨ao, l, cap, rfl, h1, h2, h3, h4, ?_⟩
  rcases DataW.trod_slice Try.underlying33 h' with ⟨hcs, -⟩ | ⟨a, len, cap', elems, rest, m, -, hcs, hx, -, -, -, hlen, -⟩
  · simp at hcs
    obtain ⟨-, h5, -⟩ := hcs
    rw [h5]; simp
  · simp at hcs
    have hx1 : x.1 = .slice (elems.map (·.1)) (rest.map (·.1)) := by rw [hx]
    rw [hx1] at hf
    have := (fits_elem hf Try.underlying33).2
    have hb : Try.prog.bytesOf 5 = 1 := by kernel_rfl
    rw [hb, List.length_map, List.length_map] at this
    have h5 := hcs.2.1
    unfold reachBytes at this
    omega
end
end Go.Proofs.Ytcboflabjdiadaa
