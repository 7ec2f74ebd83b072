/- The document's side: Len, own. -/
import Derived.Test.YtcboflabjdiadaaNetC
namespace Go.Proofs.Ytcboflabjdiadaa
open Go.RowKit

theorem rlen_any (base p : Nat) (ro : Option Addr) (rc : Nat) (l : List Ms) (w : World) (h : (thNetref base p ro rc l).T w) :
    Calls Try.prog 22 #[.pointer (some ⟨p, 0, none⟩)] w fun e w' => e = .returned (.int .i64 l.length) ∧ w = w' := by
  obtain ⟨c0, f0⟩ := cell_of_one h.1
  clear h
  go_enter Try.func22, Try.ntmps22
  go_wp2_with fail
  go_ret
  exact ⟨rfl, rfl⟩
/-- A message of its own. -/
def OwnPost (w : World) (f t : Int) (bs : List UInt8) (e : Ending) (w' : World) : Prop := ∃ co cc, e = .returned (.agg #[.int .i64 f, .int .i64 t, .slice co bs.length cc]) ∧ OwnB w' w.heap.size co cc bs ∧ Below w.heap.size w w'
set_option maxRecDepth 20000 in
set_option maxHeartbeats 2000000 in
theorem rownM_any (f t : Int) (ao : Option Addr) (cap : Nat) (bs : List UInt8) (w : World) (h0 : ao = none → bs.length = 0 ∧ cap = 0) (ha : BAt w ao bs) (hm : bs.length ≤ 140737488351232) :
    Calls Try.prog 40 #[.agg #[.int .i64 f, .int .i64 t, .slice ao bs.length cap]] w (OwnPost w f t bs) := by
  obtain ⟨i0, hi, hz0, hz1, hz2⟩ := info_parts byteInfo
  have Ha := Lib.hid ha
  have H0 := Lib.hid h0
  have Hll : Hid ((bytV bs).length = bs.length * 1) := Lib.hid (by rw [bytV_length, Nat.mul_one])
  clear ha h0
  go_enter Try.func40, Try.ntmps40
  go_wp2_with fail
  (refine wp_name fun wa hwa => ?_; have wa_s0 : w.heap.size < wa.heap.size := (by rw [hwa]; first | omega | (simp; done) | (simp; omega)); have wa_s1 : w.heap.size + 1 < wa.heap.size := (by rw [hwa]; first | omega | (simp; done) | (simp; omega)); have wa_c0 : wa.cell? ⟨w.heap.size, 0, none⟩ = some (.int .i64 f) := (by rw [hwa]; go_simp); have wa_c1 : wa.cell? ⟨w.heap.size, 1, none⟩ = some (.int .i64 t) := (by rw [hwa]; go_simp); have wa_c2 : wa.cell? ⟨w.heap.size, 2, none⟩ = some (.slice ao bs.length cap) := (by rw [hwa]; go_simp); have wa_c3 : wa.cell? ⟨w.heap.size + 1, 0, none⟩ = some (.int .i64 0) := (by rw [hwa]; go_simp); have wa_f3 : wa.frozen? ⟨w.heap.size + 1, 0, none⟩ = false := (by rw [hwa]; go_simp); have wa_c4 : wa.cell? ⟨w.heap.size + 1, 1, none⟩ = some (.int .i64 0) := (by rw [hwa]; go_simp); have wa_f4 : wa.frozen? ⟨w.heap.size + 1, 1, none⟩ = false := (by rw [hwa]; go_simp); have wa_c5 : wa.cell? ⟨w.heap.size + 1, 2, none⟩ = some (.slice none 0 0) := (by rw [hwa]; go_simp); have wa_f5 : wa.frozen? ⟨w.heap.size + 1, 2, none⟩ = false := (by rw [hwa]; go_simp); have wa_b : Below w.heap.size w wa := (by rw [hwa]; exact (by repeat (first | with_reducible exact Below.refl _ _ | with_reducible assumption | with_reducible refine Below.drew ?_ | with_reducible refine below_drawn ?_ | with_reducible refine Below.alloc ?_ (by first | omega | (simp; done) | (simp; omega) | (simp at *; omega)) _ | with_reducible refine Below.setCell ?_ (by first | omega | (simp; done) | (simp; omega) | (simp at *; omega)) _ | with_reducible refine Below.trans ?_ (Below.mono (by assumption) (by first | omega | (simp; done) | (simp; omega) | (simp at *; omega)))))); clear hwa)
  have wa_le := wa_b.size
  have Hwa := Lib.hid wa_b
  clear wa_b
  go_region_held3 (fun W => W.cell? ⟨w.heap.size, 0, none⟩ = some (.int .i64 f) ∧ W.cell? ⟨w.heap.size, 1, none⟩ = some (.int .i64 t) ∧ W.cell? ⟨w.heap.size, 2, none⟩ = some (.slice ao bs.length cap)) (first | exact ⟨d0, d1, d2⟩ | go_keep) ((refine step_append_any _ (by rfl) (.tmp 7) (.tmp 9) 33 (by rfl) wa.heap.size 5 i0 (.int .u8 0) 1 1 Try.underlying33 hi hz0 hz1 hz2 rfl (by decide) (.slice (some ⟨wa.heap.size, 0, none⟩) 0 0) 0 [] (by rfl) ?_ ao bs.length cap (bytV bs) (by first | rfl | simp) H0.out Hll.out ?_ (bytV_one _) (by unfold maxLen; omega) (by omega) ?_ ?_; (exact (by first | exact owns_drewA (owns_emptyAt _ _ (by first | rfl | (simp; done)) _ (by first | omega | (simp; done)) _ _) | exact owns_emptyAt _ _ (by first | rfl | (simp; done)) _ (by first | omega | (simp; done)) _ _)); (go_must (exact (Ha.out.below (Hwa.out.drew.alloc wa_le _)).cells)); (focus first | (simp; done) | (simp; omega)); intro v w1 hown hgrow; (have hb1 : Below wa.heap.size wa w1 := (by (refine below_grown ((Below.refl _ _).drew.alloc (by simp) _) (by first | (simp; done) | (simp; omega)) hgrow (fun k hk => ?_); (simp only [Value.ownBlock, Option.some.injEq] at hk); subst hk; first | (simp; done) | (simp; omega)))); (obtain ⟨bo, cc, rfl, ho⟩ := owned_bytes (l := bs) (by simpa using hown) rfl); (obtain ⟨xc, xf⟩ := bcell hb1); (have d0 := (xc _ 0 wa_s0).trans wa_c0); (have d1 := (xc _ 1 wa_s0).trans wa_c1); (have d2 := (xc _ 2 wa_s0).trans wa_c2); (have r0 := (xc _ 0 wa_s1).trans wa_c3); (have r1 := (xc _ 1 wa_s1).trans wa_c4); (have r2 := (xc _ 2 wa_s1).trans wa_c5); (have s0 := (xf _ 0 wa_s1).trans wa_f3); (have s1 := (xf _ 1 wa_s1).trans wa_f4); (have s2 := (xf _ 2 wa_s1).trans wa_f5); have Ho := Lib.hid ho; have Hb1 := Lib.hid hb1; (have hsz := hb1.size); (have sx : w.heap.size + 1 < w1.heap.size := (by omega)); clear hown hgrow ho hb1 xc xf))
  all_goals
    go_wp2_with fail
    refine bodyPost_ret (v := .agg #[.int .i64 f, .int .i64 t, .slice bo bs.length cc]) (by simp only [results, Try.results40]; go_simp) rfl ⟨bo, cc, rfl, ?_, ?_⟩
    · have q : w.heap.size + 1 < wa.heap.size := wa_s1
      exact own_weak (own_setN (own_setN (own_setN Ho.out ⟨w.heap.size + 1, 0, none⟩ _ q) ⟨w.heap.size + 1, 1, none⟩ _ q) ⟨w.heap.size + 1, 2, none⟩ _ q) wa_le
    · have hb := Hwa.out.trans (Hb1.out.mono wa_le)
      exact (by repeat (first | with_reducible exact Below.refl _ _ | with_reducible assumption | with_reducible refine Below.drew ?_ | with_reducible refine below_drawn ?_ | with_reducible refine Below.alloc ?_ (by first | omega | (simp; done) | (simp; omega) | (simp at *; omega)) _ | with_reducible refine Below.setCell ?_ (by first | omega | (simp; done) | (simp; omega) | (simp at *; omega)) _ | with_reducible refine Below.trans ?_ (Below.mono (by assumption) (by first | omega | (simp; done) | (simp; omega) | (simp at *; omega)))))
theorem at_goN {P : Program} {ops : Array Oper} {o : Oper} {a : Act} {w : World} {K : Act → World → Prop} {Q : Exit → Act → World → Prop} {E : Prop} (f : FuncId) (xs : Array Operand) (ts : Array TypeId) (_ : o.op = Op.call { callee := Callee.value (Operand.func f), args := xs, argTypes := ts }) (h : if Region.wanted o (yielded ops a.tmps) = true then Oper.wp P o a w K Q else E) : if Region.wanted o (yielded ops a.tmps) = true then Oper.wp P o a w K Q else E := h
theorem itemInfo : (Try.prog.info? 72).map (fun i => (i.zero, i.size, i.bytes)) = some (some (.agg #[.int .i64 0, .int .i64 0, .slice none 0 0, .bool false]), 4, 48) := by kernel_rfl
theorem keeps_rowR (w : World) (o : Obj) {w2 : World} {ro : Option Addr} {n c : Nat} (hg : (w.alloc o).grownBy w2 (Value.slice ro n c).ownBlock) : Keeps w w2 (fun x => ∃ a, ro = some a ∧ a.block = x) :=
  Keeps.trans (keeps_same0 (below_allocN w o) (fun _ => False)) ((Keeps.grown hg).weak (T := fun x => ∃ a, ro = some a ∧ a.block = x) (fun _ _ e => ownBlock_of e.symm)) (fun _ h => h.elim) (fun _ _ h => h)
/-- A message is laid behind the document's row. -/
theorem St.rlaid {W wa w2 : World} {R : List Th} {p rc g c2 : Nat} {ro : Option Addr} {l : List Ms} {m : Ms} (S1 : St W wa (thD W.heap.size m :: (netrefL W.heap.size p ro rc l ++ R))) (K2 : Keeps wa w2 (fun x => ∃ a, ro = some a ∧ a.block = x))
    (hown : w2.ownsRow W.heap.size 72 4 (.slice (some ⟨g, 0, none⟩) (l.length + 1) c2) (l.length + 1) (msR l ++ msV m)) (hgo : (∃ a, ro = some a ∧ a.block = g) ∨ wa.heap.size ≤ g) :
    St W (w2.setCell ⟨p, 0, none⟩ (.slice (some ⟨g, 0, none⟩) (l.length + 1) c2)) (netrefL W.heap.size p (some ⟨g, 0, none⟩) c2 (l ++ [m]) ++ R) := by
  have S2 := S1.pull (A := [_])
  have hT : (thNetref W.heap.size p ro rc l).T wa := S2.head
  have hpB := lt_of_block hT.1
  have hnp : ¬ ∃ a, ro = some a ∧ a.block = p := fun ⟨a, ha, hx⟩ => hT.2.2 a ha hx
  have hgp : g ≠ p := by
    rcases hgo with ⟨a, ha, hx⟩ | h1
    · exact hx ▸ hT.2.2 a ha
    · omega
  have hh : w2.heap[p]? = some (.cells #[.slice ro l.length rc] 50 (0, 0)) := (K2.block p hpB hnp).trans hT.1
  have hown2 : (w2.setCell ⟨p, 0, none⟩ (.slice (some ⟨g, 0, none⟩) (l.length + 1) c2)).ownsRow W.heap.size 72 4 (.slice (some ⟨g, 0, none⟩) (l.length + 1) c2) (l.length + 1) (msR l ++ msV m) := ownsRow_setCell_other hown (fun e => by simp only [Value.ownBlock, Option.some.injEq] at e; exact hgp e) _
  have hll : (l ++ [m]).length = l.length + 1 := by simp
  have hmm : msR (l ++ [m]) = msR l ++ msV m := by rw [msR_append]; simp [msR]
  have S3 := S2.step (t' := thNetref W.heap.size p (some ⟨g, 0, none⟩) c2 (l ++ [m])) ((K2.weak (fun _ _ h => .inr h)).trans (Keeps.set w2 ⟨p, 0, none⟩ _) (fun _ h => h) (fun _ _ h => .inl h))
    ⟨by rw [hll]; exact set_one hh, by rw [hll, hmm]; exact hown2, fun a ha => by cases ha; exact hgp⟩
    (fun x hx => by
      rcases hx with hx | ⟨a, ha, hx⟩
      · exact .inl (.inl hx)
      · cases ha
        rcases hgo with h1 | h1
        · exact .inl (.inr (hx ▸ h1))
        · exact .inr (hx ▸ h1))
  refine S3.perm ?_
  simp only [netrefL, List.map_append, List.map_cons, List.map_nil, List.cons_append, List.nil_append, List.append_assoc]
  refine List.Perm.cons _ ?_
  exact List.perm_middle.symm
end Go.Proofs.Ytcboflabjdiadaa
