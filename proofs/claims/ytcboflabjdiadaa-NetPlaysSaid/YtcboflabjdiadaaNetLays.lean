/- The contract of lays. -/
import Derived.Test.YtcboflabjdiadaaNetW
import Derived.Deep.AppendLies
import Derived.Deep.RegionLaw
namespace Go.Proofs.Ytcboflabjdiadaa
open Go.RowKit

theorem underInfo : (Try.prog.info? 59).map (fun i => (i.zero, i.size, i.bytes)) = some (some (.agg #[.int .i64 0, .int .i64 0, .slice none 0 0, .bool false]), 4, 48) := by kernel_rfl
/-- The post of lays where there is room. -/
def LaysPost (W : World) (R : List Th) (p : Nat) (l : List Ms) (f t : Int) (bs : List UInt8) (sp : Bool) (e : Ending) (w' : World) : Prop := ∃ ro' rc' ao' cap', e = .returned (.bool true) ∧ St W w' (netnetL W.heap.size p ro' rc' (l ++ [⟨f, t, ao', cap', bs, sp⟩]) ++ R)
theorem msV_one (m : Ms) : ∀ u ∈ msV m, u.oneCell' = true := by
  intro u hu
  have := msR_one [m] u (by simpa [msR] using hu)
  exact this
theorem lt_of_cellN {w : World} {a : Addr} {v : Value} (h : w.cell? a = some v) : a.block < w.heap.size := by
  rcases Nat.lt_or_ge a.block w.heap.size with h1 | h1
  · exact h1
  · simp [World.cell?, Array.getElem?_eq_none h1] at h
theorem owns_drewA {w : World} {base : Nat} {e : TypeId} {size n : Nat} {v : Value} {xs : List Value} (h : w.ownsRow base e size v n xs) : w.drew.ownsRow base e size v n xs := h
theorem keeps_row (w : World) (o : Obj) {w2 : World} {ro : Option Addr} {n c : Nat} (hg : (w.alloc o).drew.grownBy w2 (Value.slice ro n c).ownBlock) : Keeps w w2 (fun x => ∃ a, ro = some a ∧ a.block = x) :=
  Keeps.trans (keeps_same0 (below_allocN w o).drew (fun _ => False)) ((Keeps.grown hg).weak (T := fun x => ∃ a, ro = some a ∧ a.block = x) (fun _ _ e => ownBlock_of e.symm)) (fun _ h => h.elim) (fun _ _ h => h)
theorem own_setN {w : World} {base : Nat} {ao : Option Addr} {cap : Nat} {l : List UInt8} (h : OwnB w base ao cap l) (a : Addr) (v : Value) (ha : a.block < base) : OwnB (w.setCell a v) base ao cap l :=
  own_keeps h (Keeps.set w a v) (fun g hg e => by have := (own_lt h g hg).2; omega)
set_option maxRecDepth 20000 in
set_option maxHeartbeats 2000000 in
theorem lays_yes (W w : World) (R : List Th) (p : Nat) (ro : Option Addr) (rc : Nat) (l : List Ms) (f t : Int) (ao : Option Addr) (cap : Nat) (bs : List UInt8) (sp : Bool) (h : St W w (netnetL W.heap.size p ro rc l ++ R)) (hl : l.length < 1024)
    (h0 : ao = none → bs.length = 0 ∧ cap = 0) (ha : BAt w ao bs) (hm : bs.length ≤ 140737488351232) :
    Calls Try.prog 24 #[.pointer (some ⟨p, 0, none⟩), .agg #[.int .i64 f, .int .i64 t, .slice ao bs.length cap, .bool sp]] w (LaysPost W R p l f t bs sp) := by
  obtain ⟨i0, hi, hz0, hz1, hz2⟩ := info_parts underInfo
  have hT : (thNetnet W.heap.size p ro rc l).T w := h.head
  obtain ⟨c0, f0⟩ := cell_of_one hT.1
  have hplt := lt_of_block hT.1
  have H := Lib.hid h
  have H0 := Lib.hid h0
  have Ha := Lib.hid ha
  have HT := Lib.hid hT
  have hli : (l.length : Int) < 1024 := by omega
  clear h h0 ha hT
  go_enter Try.func24, Try.ntmps24
  go_wp2_with fail
  refine (clone_any ao cap bs _ H0.out (Ha.out.below (below_allocN _ _)) hm).mono ?_
  rintro e w1 ⟨co, cc, rfl, ho, hb⟩
  have hb1 : Below w.heap.size w w1 := (below_allocN w _).trans (hb.mono (by simp))
  have q0 := (hb.cell (p := ⟨w.heap.size, 0, none⟩) (by simp)).trans (by go_simp : _ = some (.int .i64 f))
  have q1 := (hb.cell (p := ⟨w.heap.size, 1, none⟩) (by simp)).trans (by go_simp : _ = some (.int .i64 t))
  have q2 := (hb.cell (p := ⟨w.heap.size, 2, none⟩) (by simp)).trans (by go_simp : _ = some (.slice ao bs.length cap))
  have q3 := (hb.cell (p := ⟨w.heap.size, 3, none⟩) (by simp)).trans (by go_simp : _ = some (.bool sp))
  have qf := (hb.frozen (p := ⟨w.heap.size, 2, none⟩) (by simp)).trans (by go_simp : _ = false)
  have d0 := (hb1.cell (p := ⟨p, 0, none⟩) hplt).trans c0
  have g0 := (hb1.frozen (p := ⟨p, 0, none⟩) hplt).trans f0
  have hs1 := hb.size
  simp only [World.alloc, Array.size_push] at hs1
  have HO := Lib.hid ho
  have HB1 := Lib.hid hb1
  clear ho hb hb1 c0 f0
  go_wp2_with fail
  refine wp_name fun wa hwa => ?_
  have e0 : wa.cell? ⟨w.heap.size, 0, none⟩ = some (.int .i64 f) := by rw [hwa]; go_simp
  have e1 : wa.cell? ⟨w.heap.size, 1, none⟩ = some (.int .i64 t) := by rw [hwa]; go_simp
  have e2 : wa.cell? ⟨w.heap.size, 2, none⟩ = some (.slice co bs.length cc) := by rw [hwa]; go_simp
  have e3 : wa.cell? ⟨w.heap.size, 3, none⟩ = some (.bool sp) := by rw [hwa]; go_simp
  have wab : Below w.heap.size w wa := by rw [hwa]; exact HB1.out.setCell (Nat.le_refl _) _
  have hO : OwnB wa W.heap.size co cc bs := by rw [hwa]; exact own_weak (own_setN HO.out ⟨w.heap.size, 2, none⟩ _ (by simp)) (by have := H.out.b.size; simp; omega)
  have hOb : ∀ a, co = some a → w.heap.size ≤ a.block := fun a ha => by
    have := (own_lt HO.out a.block (by rw [ha]; rfl)).2
    simp only [World.alloc, Array.size_push] at this
    omega
  clear hwa q0 q1 q2 q3 qf d0 g0 HO HB1
  have d0 := (wab.cell (p := ⟨p, 0, none⟩) hplt).trans (cell_of_one HT.out.1).1
  have g0 := (wab.frozen (p := ⟨p, 0, none⟩) hplt).trans (cell_of_one HT.out.1).2
  have S1 := Lib.hid (St.new H.out wab (thD W.heap.size ⟨f, t, co, cc, bs, sp⟩) hO (fun x ⟨a, ha, hx⟩ => hx ▸ hOb a ha))
  have was := wab.size
  have hWw := H.out.b.size
  have hrow : wa.ownsRow W.heap.size 59 4 (.slice ro l.length rc) l.length (msR l) := (S1.out.pull (A := [_])).head.2.1
  have HR := Lib.hid hrow
  have HO := Lib.hid hO
  have HOb := Lib.hid hOb
  have hro : ∀ a, ro = some a → a.block < w.heap.size ∧ a.block ≠ p := fun a ha => ⟨(H.out.t.lts (thNetnet W.heap.size p ro rc l) (by simp [netnetL]) a.block (.inr ⟨a, ha, rfl⟩)).1, HT.out.2.2 a ha⟩
  have Hro := Lib.hid hro
  clear hrow hO hOb H Ha H0 HT hro
  have hwB : w.heap.size < wa.heap.size := lt_of_cellN e0
  have hpB : p < wa.heap.size := by omega
  have nws := World.news_of_block (heap_new wa (.cells #[.int .i64 f, .int .i64 t, .slice co bs.length cc, .bool sp] 59))
  have Nws := Lib.hid nws
  clear nws
  have Hne : Hid ((¬ ∃ a, ro = some a ∧ a.block = w.heap.size) ∧ ¬ ∃ a, ro = some a ∧ a.block = p) := ⟨fun ⟨a, ha, hx⟩ => by
    have := (Hro.out a ha).1
    omega, fun ⟨a, ha, hx⟩ => (Hro.out a ha).2 hx⟩
  have hN : ∀ ad, some (⟨wa.heap.size, 0, none⟩ : Addr) = some ad → ∀ j u, (msV ⟨f, t, co, cc, bs, sp⟩)[j]? = some u → (wa.alloc (.cells #[.int .i64 f, .int .i64 t, .slice co bs.length cc, .bool sp] 59)).cell? (ad.add j) = some u := by
    intro ad had
    cases had
    exact Nws.out
  have HN := Lib.hid hN
  clear hN Nws
  go_region_law (((refine step_append_lies _ rfl (.tmp 21) (.tmp 23) 54 rfl W.heap.size 59 i0 (.agg #[.int .i64 0, .int .i64 0, .slice none 0 0, .bool false]) 4 48 Try.underlying54 hi hz0 hz1 hz2 rfl ?_ (.slice ro l.length rc) l.length (msR l) ?_ (owns_drewA (HR.out.alloc _)) ⟨wa.heap.size, 0, none⟩ 1 1 (msV ⟨f, t, co, cc, bs, sp⟩) ?_ rfl (HN.out _ rfl) (msV_one _) ?_ ?_ ?_ ?_ (wa.heap.size + 1) ?_ ?_); (focus (decide)); (focus (rfl)); (focus (rfl)); (focus (decide)); (focus ((unfold maxLen); omega)); (focus (omega)); (focus first | (simp; done) | (simp; omega)); (focus (simp; done)); intro g c2 w2 hown hgrow hg hglt; (have K2 : Keeps wa w2 (fun x => ∃ a, ro = some a ∧ a.block = x) := keeps_row wa _ hgrow); (have k4 := (K2.cell (p := ⟨p, 0, none⟩) hpB (Hne.out.2)).trans d0); (have k5 := (K2.frozen (p := ⟨p, 0, none⟩) hpB (Hne.out.2)).trans g0); (have HK2 := Lib.hid K2); (have HOW := Lib.hid hown); (have HGG := Lib.hid hg); clear hown hgrow hg K2))
  all_goals
    go_wp2_with fail
    go_ret
    refine ⟨some ⟨g, 0, none⟩, c2, co, cc, rfl, ?_⟩
    have hgp : g ≠ p := by
      rcases HGG.out with h1 | h1
      · obtain ⟨a, ha, hx⟩ := ownBlock_of h1
        exact hx ▸ (Hro.out a ha).2
      · omega
    have hgo : (∃ a, ro = some a ∧ a.block = g) ∨ wa.heap.size ≤ g := by
      rcases HGG.out with h1 | h1
      · exact .inl (ownBlock_of h1)
      · exact .inr (by omega)
    have S2 := S1.out.pull (A := [_])
    have hh : w2.heap[p]? = some (.cells #[.slice ro l.length rc] 56 (0, 0)) := (HK2.out.block p hpB Hne.out.2).trans S2.head.1
    have hown : (w2.setCell ⟨p, 0, none⟩ (.slice (some ⟨g, 0, none⟩) (l.length + 1) c2)).ownsRow W.heap.size 59 4 (.slice (some ⟨g, 0, none⟩) (l.length + 1) c2) (l.length + 1) (msR l ++ msV ⟨f, t, co, cc, bs, sp⟩) := ownsRow_setCell_other HOW.out (fun e => by simp only [Value.ownBlock, Option.some.injEq] at e; exact hgp e) _
    have hll : (l ++ [(⟨f, t, co, cc, bs, sp⟩ : Ms)]).length = l.length + 1 := by simp
    have hmm : msR (l ++ [(⟨f, t, co, cc, bs, sp⟩ : Ms)]) = msR l ++ msV ⟨f, t, co, cc, bs, sp⟩ := by rw [msR_append]; simp [msR]
    have S3 := S2.step (t' := thNetnet W.heap.size p (some ⟨g, 0, none⟩) c2 (l ++ [⟨f, t, co, cc, bs, sp⟩])) ((HK2.out.weak (fun _ _ h => .inr h)).trans (Keeps.set w2 ⟨p, 0, none⟩ _) (fun _ h => h) (fun _ _ h => .inl h))
      ⟨by rw [hll]; exact set_one hh, by rw [hll, hmm]; exact hown, fun a ha => by cases ha; exact hgp⟩
      (fun x hx => by
        rcases hx with hx | ⟨a, ha, hx⟩
        · exact .inl (.inl hx)
        · cases ha
          rcases hgo with h1 | h1
          · exact .inl (.inr (hx ▸ h1))
          · exact .inr (hx ▸ h1))
    refine S3.perm ?_
    simp only [netnetL, List.map_append, List.map_cons, List.map_nil, List.cons_append, List.nil_append, List.append_assoc]
    refine List.Perm.cons _ ?_
    exact List.perm_middle.symm
set_option maxRecDepth 20000 in
theorem lays_no (W w : World) (R : List Th) (p : Nat) (ro : Option Addr) (rc : Nat) (l : List Ms) (f t : Int) (ao : Option Addr) (cap : Nat) (bs : List UInt8) (sp : Bool) (h : St W w (netnetL W.heap.size p ro rc l ++ R)) (hl : 1024 ≤ l.length) :
    Calls Try.prog 24 #[.pointer (some ⟨p, 0, none⟩), .agg #[.int .i64 f, .int .i64 t, .slice ao bs.length cap, .bool sp]] w fun e w' => e = .returned (.bool false) ∧ Below w.heap.size w w' := by
  have hT : (thNetnet W.heap.size p ro rc l).T w := h.head
  obtain ⟨c0, f0⟩ := cell_of_one hT.1
  have hplt := lt_of_block hT.1
  have hli : (1024 : Int) ≤ l.length := by omega
  clear h hT
  go_enter Try.func24, Try.ntmps24
  go_wp2_with fail
  go_ret
  exact ⟨rfl, below_allocN _ _⟩
end Go.Proofs.Ytcboflabjdiadaa
