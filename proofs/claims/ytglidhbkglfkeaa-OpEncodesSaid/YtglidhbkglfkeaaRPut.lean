/- The contracts of the document's put, one, Encode. -/
import Derived.Test.YtglidhbkglfkeaaEncP
import Derived.Test.YtglidhbkglfkeaaRef
import Derived.Test.YtglidhbkglfkeaaFoot
import Derived.Deep.DrawnRows
import Derived.Deep.RegionLaw
namespace Go.Proofs.Ytglidhbkglfkeaa
open Go.RowKit
attribute [local go_sem ↓] Go.wp_at_zero Go.wp_at_succ

theorem one_any (b : Bool) (w : World) : Calls Try.prog 41 #[.bool b] w fun e w' => e = .returned (.int .i64 (b1 b)) ∧ w = w' := by
  cases b with
  | true =>
    go_enter Try.func41, Try.ntmps41
    go_wp2_with fail
    go_ret
    exact ⟨rfl, rfl⟩
  | false =>
    go_enter Try.func41, Try.ntmps41
    go_wp2_with fail
    go_ret
    exact ⟨rfl, rfl⟩
theorem own_growO {w w' : World} {base : Nat} {ao : Option Addr} {cap : Nat} {l : List UInt8} (h : OwnB w base ao cap l) (b : Below w.heap.size w w') : OwnB w' base ao cap l := by
  refine ⟨h.1, ?_⟩
  rcases h.2 with h2 | ⟨g, c, cur, hv, hg, hh, r⟩
  · exact .inl h2
  · exact .inr ⟨g, c, cur, hv, hg, (b.block g (Array.getElem?_eq_some_iff.1 hh).1).trans hh, r⟩
theorem rowlen (s : ByteArray) (h : s.size ≤ 16) : (encS s).length ≤ 26 := by
  have := (encN_length s.data.toList.length).1
  simp only [encS, encRow, List.length_append, Array.length_toList, ByteArray.size] at this h ⊢
  omega
theorem at_go {P : Program} {ops : Array Oper} {o : Oper} {a : Act} {w : World} {K : Act → World → Prop} {Q : Exit → Act → World → Prop} {E : Prop} (f : FuncId) (xs : Array Operand) (ts : Array TypeId) (_ : o.op = Op.call { callee := Callee.value (Operand.func f), args := xs, argTypes := ts }) (h : if Region.wanted o (yielded ops a.tmps) = true then Oper.wp P o a w K Q else E) : if Region.wanted o (yielded ops a.tmps) = true then Oper.wp P o a w K Q else E := h
theorem at_app {P : Program} {ops : Array Oper} {o : Oper} {a : Act} {w : World} {K : Act → World → Prop} {Q : Exit → Act → World → Prop} {E : Prop} (xs : Array Operand) (ts : Array TypeId) (_ : o.op = Op.call { callee := Callee.builtin Builtin.append, args := xs, argTypes := ts }) (h : if Region.wanted o (yielded ops a.tmps) = true then Oper.wp P o a w K Q else E) : if Region.wanted o (yielded ops a.tmps) = true then Oper.wp P o a w K Q else E := h
/-- The document's Bytes of a text's bytes. -/
theorem refBytes_str (s : ByteArray) (g cap : Nat) (w : World) (ha : BAt w (some ⟨g, 0, none⟩) s.data.toList) (hm : s.data.toList.length ≤ 1000000) :
    Calls Try.prog 57 #[.slice (some ⟨g, 0, none⟩) s.size cap] w (FreshB w (encS s)) :=
  refBytes_any (some ⟨g, 0, none⟩) cap s.data.toList w (fun h => (nomatch h)) ha hm
theorem bstep {a b c : World} (h : Below a.heap.size a b) (k : Below b.heap.size b c) : Below a.heap.size a c := h.trans (k.mono h.size)
theorem bat_at (w : World) (s : ByteArray) (n : Nat) (hn : n = w.heap.size) : BAt (Lib.bytesWorld w 5 s) (some ⟨n, 0, none⟩) s.data.toList := by subst hn; exact bytesWorld_bat w s
set_option maxHeartbeats 2000000 in
set_option maxRecDepth 20000 in
theorem put_any (k v : ByteArray) (hk : k.size ≤ 16) (hv : v.size ≤ 16) (w : World) :
    Calls Try.prog 40 #[.agg #[.string k, .string v]] w (FreshB w (encS k ++ encS v)) := by
  obtain ⟨i0, hi, hz0, hz1, hz2⟩ := info_parts byteInfo
  have hcv := conv_bytes
  have hek := rowlen k hk
  have hev := rowlen v hv
  have hk2 : k.data.toList.length ≤ 1000000 := by rw [Array.length_toList]; exact Nat.le_trans hk (by decide)
  have hv2 : v.data.toList.length ≤ 1000000 := by rw [Array.length_toList]; exact Nat.le_trans hv (by decide)
  go_enter Try.func40, Try.ntmps40
  go_wp2_with fail
  (refine wp_name fun wa hwa => ?_; have wa_s0 : w.heap.size < wa.heap.size := (by rw [hwa]; first | omega | (simp; done) | (simp; omega)); have wa_c0 : wa.cell? ⟨w.heap.size, 0, none⟩ = some (.string k) := (by rw [hwa]; go_simp); have wa_c1 : wa.cell? ⟨w.heap.size, 1, none⟩ = some (.string v) := (by rw [hwa]; go_simp); have wa_b : Below w.heap.size w wa := (by rw [hwa]; exact (by repeat (first | with_reducible exact Below.refl _ _ | with_reducible assumption | with_reducible refine Below.drew ?_ | with_reducible refine below_drawn ?_ | with_reducible refine Below.alloc ?_ (by first | omega | (simp; done) | (simp; omega) | (simp at *; omega)) _ | with_reducible refine Below.setCell ?_ (by first | omega | (simp; done) | (simp; omega) | (simp at *; omega)) _ | with_reducible refine Below.trans ?_ (Below.mono (by assumption) (by first | omega | (simp; done) | (simp; omega) | (simp at *; omega)))))); clear hwa)
  have Hk := Lib.hid (⟨hk2, hek⟩ : _ ∧ _)
  have Hv := Lib.hid (⟨hv2, hev⟩ : _ ∧ _)
  clear hk2 hek hv2 hev hk hv
  have ga := fun s => ((bytesWorld_below wa.drew s).cell (p := ⟨w.heap.size, 0, none⟩) wa_s0).trans wa_c0
  have gb := fun s => ((bytesWorld_below wa.drew s).cell (p := ⟨w.heap.size, 1, none⟩) wa_s0).trans wa_c1
  go_region_law (first
    | (refine at_app _ _ (by rfl) ?_; go_must (refine step_append_any _ (by rfl) (.tmp 6) (.tmp 10) 27 (by rfl) wa.heap.size 5 i0 (.int .u8 0) 1 1 Try.underlying27 hi hz0 hz1 hz2 rfl (by decide) (.slice co1 (encS k).length cc1) (encS k).length (bytV (encS k)) (by rfl) ?_ co2 (encS v).length cc2 (bytV (encS v)) (by rfl) ho2.none (by rw [bytV_length, Nat.mul_one]) ho2.at.cells (bytV_one _) (by have h1 := Hk.out.2; have h2 := Hv.out.2; unfold maxLen; omega) (by have h1 := Hk.out.2; have h2 := Hv.out.2; omega) ?_ ?_; (focus (go_must (exact own_weak (own_growO ho1 (by first | exact hb2 | exact (bytesWorld_below _ _).trans (hb2.mono (by (try rw [bytesWorld_sz]); (try rw [bytesWorld_sz]); (try simp only [World.drew]); first | omega | (simp; omega))))) (by (try rw [bytesWorld_sz]); (try rw [bytesWorld_sz]); (try simp only [World.drew]); first | omega | (simp; omega))))); (focus (go_must (exact (by have h1 := hb1.size; have h2 := hb2.size; (try rw [bytesWorld_sz] at h1); (try rw [bytesWorld_sz] at h1); (try rw [bytesWorld_sz] at h2); (try rw [bytesWorld_sz] at h2); (try simp only [World.drew] at h1 h2); omega)))); intro vv w3 hown hgrow; have hbw : Below wa.heap.size wa w2 := (by first | exact bstep (bstep (bstep (bstep (Below.refl _ _).drew (bytesWorld_below _ _)) hb1) (bytesWorld_below _ _)) hb2 | exact bstep (bstep (bstep (bstep (Below.refl _ _).drew (bytesWorld_below _ _)) (bytesWorld_below _ _)) hb1) hb2); have hb3 : Below w.heap.size w w3 := wa_b.trans ((below_grown hbw hbw.size hgrow (fun j hj => own_block (own_weak (own_growO ho1 (by first | exact hb2 | exact (bytesWorld_below _ _).trans (hb2.mono (by (try rw [bytesWorld_sz]); (try rw [bytesWorld_sz]); (try simp only [World.drew]); first | omega | (simp; omega))))) (by (try rw [bytesWorld_sz]); (try rw [bytesWorld_sz]); (try simp only [World.drew]); first | omega | (simp; omega))) hj)).mono (by omega)); obtain ⟨bo, bc, rfl, ho3⟩ := owned_bytes (l := encS k ++ encS v) (by rw [← bytV_append]; exact hown) (by rw [List.length_append]); clear hown hgrow hbw))
    | (refine at_go 57 _ _ (by rfl) ?_; go_simp; go_at_call 57; (with_reducible refine (refBytes_str k _ _ _ ?_ Hk.out.1).mono ?_); (focus (first | exact bat_at wa.drew k _ rfl | exact (bat_at wa.drew k _ rfl).below (bytesWorld_below _ _) | exact bat_at (Lib.bytesWorld wa.drew 5 v) k _ (by rw [bytesWorld_sz]; rfl) | exact bat_at w1 k _ rfl | exact (bat_at (Lib.bytesWorld wa.drew 5 v) k _ (by rw [bytesWorld_sz]; rfl)).below hb1 | exact ((bat_at wa.drew k _ rfl).below (bytesWorld_below _ _)).below hb1)); rintro e w1 ⟨co1, cc1, rfl, ho1, hb1⟩; have e1 : w1.cell? ⟨w.heap.size, 1, none⟩ = some (.string v) := (by go_must (first | exact (hb1.cell (p := ⟨w.heap.size, 1, none⟩) (by (try rw [bytesWorld_sz]); (try rw [bytesWorld_sz]); (try simp only [World.drew]); first | omega | (simp; omega))).trans (((bytesWorld_below _ _).cell (p := ⟨w.heap.size, 1, none⟩) (by (try rw [bytesWorld_sz]); (try rw [bytesWorld_sz]); (try simp only [World.drew]); first | omega | (simp; omega))).trans wa_c1) | exact (hb1.cell (p := ⟨w.heap.size, 1, none⟩) (by (try rw [bytesWorld_sz]); (try rw [bytesWorld_sz]); (try simp only [World.drew]); first | omega | (simp; omega))).trans (((bytesWorld_below _ _).cell (p := ⟨w.heap.size, 1, none⟩) (by (try rw [bytesWorld_sz]); (try rw [bytesWorld_sz]); (try simp only [World.drew]); first | omega | (simp; omega))).trans (((bytesWorld_below _ _).cell (p := ⟨w.heap.size, 1, none⟩) (by (try rw [bytesWorld_sz]); (try rw [bytesWorld_sz]); (try simp only [World.drew]); first | omega | (simp; omega))).trans wa_c1)))))
    | (refine at_go 57 _ _ (by rfl) ?_; go_simp; go_at_call 57; (with_reducible refine (refBytes_str v _ _ _ ?_ Hv.out.1).mono ?_); (focus (go_must (first | exact bat_at wa.drew v _ rfl | exact (bat_at wa.drew v _ rfl).below (bytesWorld_below _ _) | exact bat_at (Lib.bytesWorld wa.drew 5 k) v _ (by rw [bytesWorld_sz]; rfl) | exact bat_at w1 v _ rfl | exact (bat_at (Lib.bytesWorld wa.drew 5 k) v _ (by rw [bytesWorld_sz]; rfl)).below hb1 | exact ((bat_at wa.drew v _ rfl).below (bytesWorld_below _ _)).below hb1))); rintro e w2 ⟨co2, cc2, rfl, ho2, hb2⟩)
    | fail)
  all_goals
    have Ho := Lib.hid (own_weak ho3 (Nat.le_of_lt wa_s0))
    have Hb := Lib.hid hb3
    clear ho1 ho2 hb1 hb2 e1 ga gb ho3 hb3
    go_wp2_with fail
    go_ret
    exact ⟨bo, bc, by rw [List.length_append]; rfl, Ho.out, Hb.out⟩
end Go.Proofs.Ytglidhbkglfkeaa
