/- The contract of done: a split that is done. -/
import Derived.Test.YtobnibdeimiinaaDSt
import Derived.Test.YtobnibdeimiinaaSq
import Derived.Deep.DeepCutAuto
import Derived.Test.YtobnibdeimiinaaFour
namespace Go.Proofs.Ytobnibdeimiinaa
open Go.RowKit

/-- A zone in a block of its own. -/
structure Nine (w : World) (b : Nat) (z : Zn) : Prop where
  lt : b < w.heap.size
  c0 : w.cell? ⟨b, 0, none⟩ = some (.int .i64 z.id)
  c1 : w.cell? ⟨b, 1, none⟩ = some (.string z.fr)
  c2 : w.cell? ⟨b, 2, none⟩ = some (.string z.to)
  c3 : w.cell? ⟨b, 3, none⟩ = some (.int .i64 z.owner)
  c4 : w.cell? ⟨b, 4, none⟩ = some (.int .i64 z.epoch)
  c5 : w.cell? ⟨b, 5, none⟩ = some (.int .i64 z.pend)
  c6 : w.cell? ⟨b, 6, none⟩ = some (.int .i64 z.tt)
  c7 : w.cell? ⟨b, 7, none⟩ = some (.string z.key)
  c8 : w.cell? ⟨b, 8, none⟩ = some (.int .i64 z.nw)
  fz : w.frozen? ⟨b, 0, none⟩ = false ∧ w.frozen? ⟨b, 1, none⟩ = false ∧ w.frozen? ⟨b, 2, none⟩ = false
theorem Nine.grow {w w' : World} {b : Nat} {z : Zn} (h : Nine w b z) (k : Below w.heap.size w w') : Nine w' b z := by
  obtain ⟨xc, xf⟩ := bcell k
  exact ⟨Nat.lt_of_lt_of_le h.lt k.size, (xc _ _ h.lt).trans h.c0, (xc _ _ h.lt).trans h.c1, (xc _ _ h.lt).trans h.c2, (xc _ _ h.lt).trans h.c3, (xc _ _ h.lt).trans h.c4, (xc _ _ h.lt).trans h.c5, (xc _ _ h.lt).trans h.c6, (xc _ _ h.lt).trans h.c7, (xc _ _ h.lt).trans h.c8, (xf _ _ h.lt).trans h.fz.1, (xf _ _ h.lt).trans h.fz.2.1, (xf _ _ h.lt).trans h.fz.2.2⟩
theorem nine_cells {w : World} {A : Nat} {cur : Array Value} {t : TypeId} (h : w.heap[A]? = some (.cells cur t (0, 0))) (hs : cur.size = 9) (z : Zn) : Nine (w.setCells A 0 (znV z)) A z := by
  have key : ∀ j v, (znV z)[j]? = some v → (w.setCells A 0 (znV z)).cell? ⟨A, j, none⟩ = some v := fun j v hv => by
    obtain ⟨hj, hv'⟩ := List.getElem?_eq_some_iff.1 hv
    have := World.cell?_setCells_in A (znV z) 0 w (fun q hq => by
      rw [Nat.zero_add, (cells_of_obj h).1, Array.getElem?_eq_getElem (show q < cur.size by rw [hs]; exact hq)]; rfl) j hj
    rw [Nat.zero_add] at this
    rw [this, hv']
  have hf : ∀ j, (w.setCells A 0 (znV z)).frozen? ⟨A, j, none⟩ = false := fun j => by rw [World.frozen?_setCells]; exact (cells_of_obj h).2 j
  exact ⟨Nat.lt_of_lt_of_le (lt_of_block h) (keeps_setCellsN w A 0 (znV z)).size, key 0 _ rfl, key 1 _ rfl, key 2 _ rfl, key 3 _ rfl, key 4 _ rfl, key 5 _ rfl, key 6 _ rfl, key 7 _ rfl, key 8 _ rfl, hf 0, hf 1, hf 2⟩
theorem Nine.far {w : World} {b A : Nat} {z : Zn} (h : Nine w b z) (hn : b ≠ A) (vs : List Value) : Nine (w.setCells A 0 vs) b z := by
  have k := keeps_setCellsN w A 0 vs
  have xc : ∀ j, (w.setCells A 0 vs).cell? ⟨b, j, none⟩ = w.cell? ⟨b, j, none⟩ := fun j => k.cell (p := ⟨b, j, none⟩) h.lt hn
  have xf : ∀ j, (w.setCells A 0 vs).frozen? ⟨b, j, none⟩ = w.frozen? ⟨b, j, none⟩ := fun j => k.frozen (p := ⟨b, j, none⟩) h.lt hn
  exact ⟨Nat.lt_of_lt_of_le h.lt k.size, (xc _).trans h.c0, (xc _).trans h.c1, (xc _).trans h.c2, (xc _).trans h.c3, (xc _).trans h.c4, (xc _).trans h.c5, (xc _).trans h.c6, (xc _).trans h.c7, (xc _).trans h.c8, (xf _).trans h.fz.1, (xf _).trans h.fz.2.1, (xf _).trans h.fz.2.2⟩
/-- A zone's block that was just made. -/
def ZB (w : World) (A : Nat) : Prop := w.heap[A]? = some (.cells zero9 39 (0, 0))
theorem ZB.grow {w w' : World} {A : Nat} (h : ZB w A) (b : Below w.heap.size w w') : ZB w' A := (b.block A (lt_of_block h)).trans h
theorem ZB.there {w : World} {A : Nat} (h : ZB w A) : w.there A 0 9 := fun j hj => by
  rw [(cells_of_obj h).1, (cells_of_obj h).2, Nat.zero_add]
  exact ⟨by rw [Array.getElem?_eq_getElem (show j < zero9.size from hj)]; rfl, rfl⟩
def isZB (N : Nat) (w : World) (v : Option Value) : Prop := ∀ x, v = some x → ∃ A, x = .pointer (some ⟨A, 0, none⟩) ∧ N ≤ A ∧ ZB w A
/-- What holds between the operations. -/
structure FI (wa : World) (E : Value) (v4 v9 v10 v11 : Option Value) (w : World) : Prop where
  b : Below wa.heap.size wa w
  e4 : ∀ x, v4 = some x → x = E
  e9 : ∀ x, v9 = some x → x = E
  a : isZB wa.heap.size w v10
  c : isZB wa.heap.size w v11
  ne : ∀ x y, v10 = some x → v11 = some y → x ≠ y
theorem FI.grow {wa w w' : World} {E : Value} {v4 v9 v10 v11 : Option Value} (h : FI wa E v4 v9 v10 v11 w) (b : Below w.heap.size w w') : FI wa E v4 v9 v10 v11 w' :=
  ⟨h.b.trans (b.mono h.b.size), h.e4, h.e9, fun x e => let ⟨A, h1, h2, h3⟩ := h.a x e; ⟨A, h1, h2, h3.grow b⟩, fun x e => let ⟨A, h1, h2, h3⟩ := h.c x e; ⟨A, h1, h2, h3.grow b⟩, h.ne⟩
theorem FI.set4 {wa w : World} {E : Value} {v9 v10 v11 : Option Value} (h : FI wa E none v9 v10 v11 w) : FI wa E (some E) v9 v10 v11 w := ⟨h.b, fun _ e => (Option.some.inj e).symm, h.e9, h.a, h.c, h.ne⟩
theorem FI.set9 {wa w : World} {E : Value} {v4 v10 v11 : Option Value} (h : FI wa E v4 none v10 v11 w) : FI wa E v4 (some E) v10 v11 w := ⟨h.b, h.e4, fun _ e => (Option.some.inj e).symm, h.a, h.c, h.ne⟩
theorem ZB.new (w : World) : ZB (w.alloc (.cells zero9 39)) w.heap.size := heap_new w _
theorem FI.new10 {wa w : World} {E : Value} {v4 v9 v11 : Option Value} (h : FI wa E v4 v9 none v11 w) : FI wa E v4 v9 (some (.pointer (some ⟨w.heap.size, 0, none⟩))) v11 (w.alloc (.cells zero9 39)) := by
  have g := h.grow (below_allocO w (.cells zero9 39))
  refine ⟨g.b, g.e4, g.e9, fun x e => ⟨w.heap.size, (Option.some.inj e).symm, h.b.size, ZB.new w⟩, g.c, fun x y e1 e2 e3 => ?_⟩
  obtain ⟨B, hB, -, hz⟩ := h.c y e2
  have := lt_of_block hz
  rw [← Option.some.inj e1, hB] at e3
  simp only [Value.pointer.injEq, Option.some.injEq, Addr.mk.injEq, and_true] at e3
  omega
theorem FI.new11 {wa w : World} {E : Value} {v4 v9 v10 : Option Value} (h : FI wa E v4 v9 v10 none w) : FI wa E v4 v9 v10 (some (.pointer (some ⟨w.heap.size, 0, none⟩))) (w.alloc (.cells zero9 39)) := by
  have g := h.grow (below_allocO w (.cells zero9 39))
  refine ⟨g.b, g.e4, g.e9, g.a, fun x e => ⟨w.heap.size, (Option.some.inj e).symm, h.b.size, ZB.new w⟩, fun x y e1 e2 e3 => ?_⟩
  obtain ⟨B, hB, -, hz⟩ := h.a x e1
  have := lt_of_block hz
  rw [← Option.some.inj e2, hB] at e3
  simp only [Value.pointer.injEq, Option.some.injEq, Addr.mk.injEq, and_true] at e3
  omega
theorem step_store_aggN {P : Program} {ops : Array Oper} {o : Oper} {a : Act} {w : World} {K : Act → World → Prop} {Q : Exit → Act → World → Prop} {E : Prop} (hg : o.guard = none) (hd : o.dst = none) (ty : TypeId) (x y : Operand) (hop : o.op = .store ty x y) (b off : Nat) (cs : List Value) (n : Nat) (hn : n = cs.length)
    (hx : a.eval x = .pointer (some ⟨b, off, none⟩)) (hy : a.eval y = .agg cs.toArray) (ht : w.there b off n) (hi : (P.info? ty).map (·.size) = some n) (h1 : ∀ v ∈ cs, v.oneCell' = true) (hK : K a (w.setCells b off cs)) :
    if Region.wanted o (yielded ops a.tmps) = true then Oper.wp P o a w K Q else E := by
  subst hn
  exact step_store_agg hg ty x y hop b off cs.toArray hx hy (by simpa using ht) (by simpa using hi) (all_oneCell_toArray h1) (by rw [hd, List.toList_toArray]; exact hK)
def InsPost (p : Nat) (v : Value) (n : Nat) (R : Nat → Nat → World → Prop) (e : Ending) (w' : World) : Prop := ∃ g' c', e = .returned (.slice (some ⟨g', 0, none⟩) (n + 1) c') ∧ w'.cell? ⟨p, 2, none⟩ = some v ∧ w'.frozen? ⟨p, 2, none⟩ = false ∧ R g' c' w'
theorem set_ins : ∀ (l : List Zn) (i : Nat) (_ : i < l.length) (a b : Zn), (l.set i a).take (i + 1) ++ b :: (l.set i a).drop (i + 1) = l.take i ++ a :: b :: l.drop (i + 1)
  | x :: l, 0, _, a, b => by simp
  | x :: l, i + 1, h, a, b => by
    have := set_ins l i (by simpa using h) a b
    simpa using this
theorem ins_len {l : List Zn} {i n : Nat} (hi : i < n) (hn : n = l.length) (a b : Zn) : n + 1 = (l.take i ++ a :: b :: l.drop (i + 1)).length := by
  subst hn
  simp only [List.length_append, List.length_cons, List.length_take, List.length_drop]
  omega
set_option maxRecDepth 20000 in
set_option maxHeartbeats 4000000 in
theorem done_split {W w : World} {L : List Th} {p g zc : Nat} {m : Mp} {ho : Option Addr} {hl hc : Nat} (h : St W w (thDir 76 W.heap.size p g zc m ho hl hc :: L)) (hm : m.zs.length ≤ 16) (i : Nat) (z : Zn) (hi : m.zs[i]? = some z) (hz : 1 ≤ z.epoch) (c : Ch) (h1 : z.pend = 1) (hok : cutOk z.fr z.to z.key = true) (h2 : z.epoch = c.epoch) (h3 : z.epoch < 1099511627776) :
    Calls Try.prog 42 #[.pointer (some ⟨p, 0, none⟩), .int .i64 i, .agg #[.int .i64 c.kind, .int .i64 c.zone, .int .i64 c.epoch, .int .i64 c.tt, .string c.key]] w (ChPost 76 W p m ho hl hc L (some { m with zs := m.zs.take i ++ Zn.mk z.id z.fr z.key z.owner (z.epoch + 1) 0 0 z0 0 :: Zn.mk z.nw z.key z.to z.owner (z.epoch + 1) 0 0 z0 0 :: m.zs.drop (i + 1) })) := by
  obtain ⟨hp, c0, c1, c2, c3, hf⟩ := dir_cells h.head
  obtain ⟨hil, hie⟩ := List.getElem?_eq_some_iff.1 hi
  have hat := h.head.2.1.at
  have hg := hat.lt
  have hgp := h.head.2.2
  have hpg : p ≠ g := fun e => hgp e.symm
  obtain ⟨d0, d1, d2, d3, d4, d5, d6, d7, d8⟩ := hat.nine i hil z hie.symm
  have hfg : ∀ j, w.frozen? ⟨g, j, none⟩ = false := h.head.2.1.frozen
  have H := Lib.hid h
  obtain ⟨n, hn⟩ : ∃ n, n = m.zs.length := ⟨_, rfl⟩
  rw [← hn] at hil hm c2
  have Hn := Lib.hid hn
  have Hi := Lib.hid hi
  have Hok := Lib.hid hok
  have Hm := Lib.hid hm
  clear hat hn hi hie h c0 c1 c3 hf hok hm
  have e0 : (z.pend == 0) = false := by rw [h1]; rfl
  have e1 : (z.pend == 1) = true := by rw [h1]; rfl
  have e3 : (z.epoch != c.epoch) = false := by rw [bne_eq_false_iff_eq]; exact h2
  have e4 : decide (1099511627776 ≤ z.epoch) = false := by rw [decide_eq_false_iff_not]; omega
  clear h1 h2
  go_enter Try.func42, Try.ntmps42
  go_upto_region 9 with fail
  go_cut [8, 9] (fun s8 s9 wx => ∃ a b : Nat, s8 = .pointer (some ⟨a, 0, none⟩) ∧ s9 = .pointer (some ⟨b, 0, none⟩) ∧ a ≠ b ∧ w.heap.size + 2 ≤ a ∧ w.heap.size + 2 ≤ b ∧ Hid (Nine wx a (endedZ z (z.epoch + 1))) ∧ Hid (Nine wx b (endedZ z (z.epoch + 1))) ∧ Hid (Nine wx (w.heap.size + 1) z) ∧ Hid (Below w.heap.size w wx))
  case first =>
    (refine wp_name fun wa hwa => ?_; have wa_s0 : p < wa.heap.size := (by rw [hwa]; first | omega | (simp; done) | (simp; omega)); have wa_s1 : g < wa.heap.size := (by rw [hwa]; first | omega | (simp; done) | (simp; omega)); have wa_s2 : w.heap.size < wa.heap.size := (by rw [hwa]; first | omega | (simp; done) | (simp; omega)); have wa_s3 : w.heap.size + 1 < wa.heap.size := (by rw [hwa]; first | omega | (simp; done) | (simp; omega)); have wa_c0 : wa.cell? ⟨w.heap.size + 1, 0, none⟩ = some (.int .i64 z.id) := (by rw [hwa]; go_simp); have wa_c1 : wa.cell? ⟨w.heap.size + 1, 1, none⟩ = some (.string z.fr) := (by rw [hwa]; go_simp); have wa_c2 : wa.cell? ⟨w.heap.size + 1, 2, none⟩ = some (.string z.to) := (by rw [hwa]; go_simp); have wa_c3 : wa.cell? ⟨w.heap.size + 1, 3, none⟩ = some (.int .i64 z.owner) := (by rw [hwa]; go_simp); have wa_c4 : wa.cell? ⟨w.heap.size + 1, 4, none⟩ = some (.int .i64 z.epoch) := (by rw [hwa]; go_simp); have wa_c5 : wa.cell? ⟨w.heap.size + 1, 5, none⟩ = some (.int .i64 z.pend) := (by rw [hwa]; go_simp); have wa_c6 : wa.cell? ⟨w.heap.size + 1, 6, none⟩ = some (.int .i64 z.tt) := (by rw [hwa]; go_simp); have wa_c7 : wa.cell? ⟨w.heap.size + 1, 7, none⟩ = some (.string z.key) := (by rw [hwa]; go_simp); have wa_c8 : wa.cell? ⟨w.heap.size + 1, 8, none⟩ = some (.int .i64 z.nw) := (by rw [hwa]; go_simp); have wa_c9 : wa.cell? ⟨w.heap.size + 1, 0, none⟩ = some (.int .i64 z.id) := (by rw [hwa]; go_simp); have wa_f9 : wa.frozen? ⟨w.heap.size + 1, 0, none⟩ = false := (by rw [hwa]; go_simp); have wa_c10 : wa.cell? ⟨w.heap.size + 1, 1, none⟩ = some (.string z.fr) := (by rw [hwa]; go_simp); have wa_f10 : wa.frozen? ⟨w.heap.size + 1, 1, none⟩ = false := (by rw [hwa]; go_simp); have wa_c11 : wa.cell? ⟨w.heap.size + 1, 2, none⟩ = some (.string z.to) := (by rw [hwa]; go_simp); have wa_f11 : wa.frozen? ⟨w.heap.size + 1, 2, none⟩ = false := (by rw [hwa]; go_simp); have wa_b : Below w.heap.size w wa := (by rw [hwa]; exact (by repeat (first | with_reducible exact Below.refl _ _ | with_reducible assumption | with_reducible refine Below.drew ?_ | with_reducible refine below_drawn ?_ | with_reducible refine Below.alloc ?_ (by first | omega | (simp; done) | (simp; omega) | (simp at *; omega)) _ | with_reducible refine Below.setCell ?_ (by first | omega | (simp; done) | (simp; omega) | (simp at *; omega)) _ | with_reducible refine Below.trans ?_ (Below.mono (by assumption) (by first | omega | (simp; done) | (simp; omega) | (simp at *; omega)))))); clear hwa)
    have hN : Hid (Nine wa (w.heap.size + 1) z) := ⟨wa_s3, wa_c0, wa_c1, wa_c2, wa_c3, wa_c4, wa_c5, wa_c6, wa_c7, wa_c8, wa_f9, wa_f10, wa_f11⟩
    have hs2 : w.heap.size + 2 ≤ wa.heap.size := by omega
    have x1 : IntKind.i64.wrap (z.epoch + 1) = z.epoch + 1 := by rw [IntKind.wrap_i64]; omega
    clear d0 d1 d2 d3 d4 d5 d6 d7 d8 c2 hfg hil Hn Hi Hok Hm H e0 e1 e3 e4 wa_c9 wa_c10 wa_c11
    refine wp_region_noPanic ?_
    refine wp_region_held (S := (fun W => Below wa.heap.size wa W ∧ ∀ b o, b < wa.heap.size → W.cell? ⟨b, o, none⟩ = wa.cell? ⟨b, o, none⟩)) (by kernel_rfl) ?_
    change wpAnyH _ _ _ _ _ _ _ _ (World.drew _)
    have hS0 := stay_drew wa
    (refine takeD (i := 0) (v := ?v0) 57 rfl rfl (by kernel_rfl) (by kernel_rfl) (by kernel_rfl) (fun _ _ _ h => h) (Or.inl ⟨by rfl, ?hy0⟩) hS0 ?rest0; (case hy0 => (intro w hSw; (try dsimp only at hSw); go_simp; (try with_reducible rfl))); (try simp only [Act.put, List.setIfInBounds_toArray, List.set_cons_zero, List.set_cons_succ]))
    (refine takeD (i := 1) (v := ?v1) 58 rfl rfl (by kernel_rfl) (by kernel_rfl) (by kernel_rfl) (fun _ _ _ h => h) (Or.inl ⟨by rfl, ?hy1⟩) hS0 ?rest1; (case hy1 => (intro w hSw; (try dsimp only at hSw); go_simp; (try with_reducible rfl))); (try simp only [Act.put, List.setIfInBounds_toArray, List.set_cons_zero, List.set_cons_succ]))
    (refine takeD (i := 2) (v := ?v2) 59 rfl rfl (by kernel_rfl) (by kernel_rfl) (by kernel_rfl) (fun _ _ _ h => h) (Or.inl ⟨by rfl, ?hy2⟩) hS0 ?rest2; (case hy2 => (intro w hSw; (try dsimp only at hSw); go_simp; (try with_reducible rfl))); (try simp only [Act.put, List.setIfInBounds_toArray, List.set_cons_zero, List.set_cons_succ]))
    (refine takeD (i := 3) (v := ?v3) 60 rfl rfl (by kernel_rfl) (by kernel_rfl) (by kernel_rfl) (fun _ _ _ h => h) (Or.inl ⟨by rfl, ?hy3⟩) hS0 ?rest3; (case hy3 => (intro w hSw; (try dsimp only at hSw); go_simp; (try with_reducible rfl))); (try simp only [Act.put, List.setIfInBounds_toArray, List.set_cons_zero, List.set_cons_succ]))
    (refine takeD (i := 5) (v := ?v5) 62 rfl rfl (by kernel_rfl) (by kernel_rfl) (by kernel_rfl) (fun _ _ _ h => h) (Or.inl ⟨by rfl, ?hy5⟩) hS0 ?rest5; (case hy5 => (intro w hSw; (try dsimp only at hSw); go_simp; (try with_reducible rfl))); (try simp only [Act.put, List.setIfInBounds_toArray, List.set_cons_zero, List.set_cons_succ]))
    (refine takeD (i := 6) (v := ?v6) 63 rfl rfl (by kernel_rfl) (by kernel_rfl) (by kernel_rfl) (fun _ _ _ h => h) (Or.inl ⟨by rfl, ?hy6⟩) hS0 ?rest6; (case hy6 => (intro w hSw; (try dsimp only at hSw); go_simp; (try with_reducible rfl))); (try simp only [Act.put, List.setIfInBounds_toArray, List.set_cons_zero, List.set_cons_succ]))
    (refine takeD (i := 7) (v := ?v7) 64 rfl rfl (by kernel_rfl) (by kernel_rfl) (by kernel_rfl) (fun _ _ _ h => h) (Or.inl ⟨by rfl, ?hy7⟩) hS0 ?rest7; (case hy7 => (intro w hSw; (try dsimp only at hSw); go_simp; (try with_reducible rfl))); (try simp only [Act.put, List.setIfInBounds_toArray, List.set_cons_zero, List.set_cons_succ]))
    (refine takeD (i := 8) (v := ?v8) 65 rfl rfl (by kernel_rfl) (by kernel_rfl) (by kernel_rfl) (fun _ _ _ h => h) (Or.inl ⟨by rfl, ?hy8⟩) hS0 ?rest8; (case hy8 => (intro w hSw; (try dsimp only at hSw); go_simp; (try with_reducible rfl))); (try simp only [Act.put, List.setIfInBounds_toArray, List.set_cons_zero, List.set_cons_succ]))
    refine four_at (n := 2) 61 66 8 9 (fun b4 b9 b10 b11 => #[true, true, true, true, b4, true, true, true, true, b9, b10, b11, false, false]) (FI wa (.agg #[.int .i64 z.id, .string z.fr, .string z.to, .int .i64 z.owner, .int .i64 (z.epoch + 1), .int .i64 0, .int .i64 0, .string ⟨#[]⟩, .int .i64 0])) 4 9 10 11 ?hr ?m4 ?m9 ?m10 ?m11 ?h0 ?h4 ?h9 ?h10 ?h11 ?hend
    case hr => intro b4 b9 b10 b11 h1 h2; cases b4 <;> cases b9 <;> cases b10 <;> cases b11 <;> (first | (exact absurd (h1 rfl) (by decide)) | (exact absurd h2 (by decide)) | kernel_rfl)
    case m4 => intro b10 b11; rfl
    case m9 => intro b10 b11; rfl
    case m10 => intro b4 b9 b11; rfl
    case m11 => intro b4 b9 b10; rfl
    case h0 => exact ⟨(Below.refl _ _).drew, (fun _ e => nomatch e), (fun _ e => nomatch e), (fun _ e => nomatch e), (fun _ e => nomatch e), (fun _ _ e => nomatch e)⟩
    case h4 =>
      intro v10 v11 w3 hI K hK
      cases v10 <;> cases v11
      all_goals
        simp only [frO, putO, Act.put, List.setIfInBounds_toArray, List.set_cons_zero, List.set_cons_succ] at hK ⊢
        refine wpOp_step rfl (fun K' hK' => ?_)
        go_simp
        refine (ended_any z (z.epoch + 1) _).mono ?_
        rintro e W' ⟨rfl, hbw⟩
        exact hK' _ _ (hK _ _ (stay_mk (hI.grow hbw).b) (hI.grow hbw).set4)
    case h9 =>
      intro v4 v10 v11 w3 hI K hK
      cases v10 <;> cases v11
      all_goals
        simp only [frO, putO, Act.put, List.setIfInBounds_toArray, List.set_cons_zero, List.set_cons_succ] at hK ⊢
        refine wpOp_step rfl (fun K' hK' => ?_)
        go_simp
        refine (ended_any z (z.epoch + 1) _).mono ?_
        rintro e W' ⟨rfl, hbw⟩
        exact hK' _ _ (hK _ _ (stay_mk (hI.grow hbw).b) (hI.grow hbw).set9)
    case h10 =>
      intro v4 v9 v11 w3 h94 hI K hK
      cases v4 <;> cases v9 <;> cases v11
      all_goals
        (first
          | (exfalso; simp at h94; done)
          | (simp only [frO, putO, Act.put, List.setIfInBounds_toArray, List.set_cons_zero, List.set_cons_succ] at hK ⊢
             refine wpOp_step rfl (fun K' hK' => ?_)
             go_simp
             exact hK' _ _ (hK _ _ (stay_mk hI.new10.b) hI.new10)))
    case h11 =>
      intro v4 v9 v10 w3 h94 hI K hK
      cases v4 <;> cases v9 <;> cases v10
      all_goals
        (first
          | (exfalso; simp at h94; done)
          | (simp only [frO, putO, Act.put, List.setIfInBounds_toArray, List.set_cons_zero, List.set_cons_succ] at hK ⊢
             refine wpOp_step rfl (fun K' hK' => ?_)
             go_simp
             exact hK' _ _ (hK _ _ (stay_mk hI.new11.b) hI.new11)))
    case hend =>
      intro v4 v9 v10 v11 w3 hI
      obtain ⟨A, rfl, hA, zA⟩ := hI.a _ rfl
      obtain ⟨B, rfl, hB, zB⟩ := hI.c _ rfl
      obtain rfl := hI.e4 _ rfl
      obtain rfl := hI.e9 _ rfl
      have hAB : A ≠ B := fun e => hI.ne _ _ rfl rfl (by rw [e])
      have hI3 := hI.b
      have zA1 : ZB w3 A := zA
      have h1b := (keeps_setCellsN w3 A 0 (znV (endedZ z (z.epoch + 1)))).below (B := wa.heap.size) (fun x e => by rw [e]; exact hA) hI3.size
      have hb1 := hI3.trans h1b
      have zB1 : ZB (w3.setCells A 0 (znV (endedZ z (z.epoch + 1)))) B := ((keeps_setCellsN w3 A 0 _).block B (lt_of_block zB) (fun e => hAB e.symm)).trans zB
      have h2b := (keeps_setCellsN (w3.setCells A 0 (znV (endedZ z (z.epoch + 1)))) B 0 (znV (endedZ z (z.epoch + 1)))).below (B := wa.heap.size) (fun x e => by rw [e]; exact hB) hb1.size
      have hb2 := hb1.trans h2b
      have n1 := (nine_cells zA1 rfl (endedZ z (z.epoch + 1))).far hAB (znV (endedZ z (z.epoch + 1)))
      have n2 := nine_cells zB1 rfl (endedZ z (z.epoch + 1))
      have n3 := ((hN.out.grow hI3).far (show w.heap.size + 1 ≠ A by omega) (znV (endedZ z (z.epoch + 1)))).far (show w.heap.size + 1 ≠ B by omega) (znV (endedZ z (z.epoch + 1)))
      simp only [frO, putO, Act.put, List.setIfInBounds_toArray, List.set_cons_zero, List.set_cons_succ]
      refine wpAnyH_all (rs := [12]) (by kernel_rfl) (by simp) (fun i hi => ?_)
      obtain rfl : i = 12 := by simpa using hi
      refine wpOp_step rfl (fun K' hK' => ?_)
      refine step_store_aggN rfl rfl 39 _ _ rfl A 0 (znV (endedZ z (z.epoch + 1))) 9 rfl rfl rfl zA1.there zoneSize (znV_one _) ?_
      refine hK' _ _ ⟨stay_mk hb1, ?_⟩
      clear hK' K'
      generalize w3.setCells A 0 (znV (endedZ z (z.epoch + 1))) = w4 at *
      refine wpAnyH_all (rs := [13]) (by kernel_rfl) (by simp) (fun i hi => ?_)
      obtain rfl : i = 13 := by simpa using hi
      refine wpOp_step rfl (fun K' hK' => ?_)
      refine step_store_aggN rfl rfl 39 _ _ rfl B 0 (znV (endedZ z (z.epoch + 1))) 9 rfl rfl rfl zB1.there zoneSize (znV_one _) ?_
      refine hK' _ _ ⟨stay_mk hb2, ?_⟩
      clear hK' K'
      refine wpAnyH_done (by kernel_rfl) ?_ _
      refine NoPanic.normal ?_
      generalize w4.setCells B 0 (znV (endedZ z (z.epoch + 1))) = w5 at *
      go_wp2_with fail
      go_meet
      exact ⟨A, B, rfl, rfl, hAB, by omega, by omega, Lib.hid n1, Lib.hid n2, Lib.hid n3, Lib.hid (wa_b.trans (hb2.mono (by omega)))⟩
  case rest =>
    obtain ⟨a, b, rfl, rfl, hab, ha, hb, Ha, Hb, Hz, Hx⟩ := hcut
    obtain ⟨la, a0, a1, a2, a3, a4, a5, a6, a7, a8, fa0, fa1, fa2⟩ := Ha.out
    obtain ⟨lb, b0, b1, b2, b3, b4, b5, b6, b7, b8, fb0, fb1, fb2⟩ := Hb.out
    obtain ⟨lz, z0', z1, z2, z3, z4, z5, z6, z7, z8, -, -, -⟩ := Hz.out
    have wc_b := Hx.out
    have hcut := fun w => span_cut z.fr z.to z.key w
    rw [Hok.out] at hcut
    simp only [sel, if_true] at hcut
    have Hcut := Lib.hid hcut
    have hza : w.heap.size + 1 ≠ a := by omega
    have hzb : w.heap.size + 1 ≠ b := by omega
    have hba : b ≠ a := fun e => hab e.symm
    have hga : g ≠ a := by omega
    have hgb : g ≠ b := by omega
    have hpa : p ≠ a := by omega
    have hpb : p ≠ b := by omega
    have xp := (wc_b.cell (p := ⟨p, 2, none⟩) hp).trans c2
    simp only [endedZ, z0] at a0 a1 a2 a3 a4 a5 a6 a7 a8 b0 b1 b2 b3 b4 b5 b6 b7 b8
    clear hcut Ha Hb Hz Hx e0 e1 e3 e4
    go_wp2_with fail
    (refine calls_name fun wa hwa => ?_; have wa_s0 : p < wa.heap.size := (by rw [hwa]; first | omega | (simp; done) | (simp; omega)); have wa_s1 : g < wa.heap.size := (by rw [hwa]; first | omega | (simp; done) | (simp; omega)); have wa_s2 : a < wa.heap.size := (by rw [hwa]; first | omega | (simp; done) | (simp; omega)); have wa_s3 : b < wa.heap.size := (by rw [hwa]; first | omega | (simp; done) | (simp; omega)); have wa_s4 : w.heap.size + 1 < wa.heap.size := (by rw [hwa]; first | omega | (simp; done) | (simp; omega)); have wa_c0 : wa.cell? ⟨p, 2, none⟩ = some (.slice (some ⟨g, 0, none⟩) n zc) := (by rw [hwa]; go_simp); have wa_c1 : wa.cell? ⟨w.heap.size + 1, 7, none⟩ = some (.string z.key) := (by rw [hwa]; go_simp); have wa_c2 : wa.cell? ⟨w.heap.size + 1, 8, none⟩ = some (.int .i64 z.nw) := (by rw [hwa]; go_simp); have wa_c3 : wa.cell? ⟨a, 0, none⟩ = some (.int .i64 z.id) := (by rw [hwa]; go_simp); have wa_f3 : wa.frozen? ⟨a, 0, none⟩ = false := (by rw [hwa]; go_simp); have wa_c4 : wa.cell? ⟨a, 1, none⟩ = some (.string z.fr) := (by rw [hwa]; go_simp); have wa_f4 : wa.frozen? ⟨a, 1, none⟩ = false := (by rw [hwa]; go_simp); have wa_c5 : wa.cell? ⟨a, 2, none⟩ = some (.string z.to) := (by rw [hwa]; go_simp); have wa_f5 : wa.frozen? ⟨a, 2, none⟩ = false := (by rw [hwa]; go_simp); have wa_c6 : wa.cell? ⟨a, 3, none⟩ = some (.int .i64 z.owner) := (by rw [hwa]; go_simp); have wa_c7 : wa.cell? ⟨a, 4, none⟩ = some (.int .i64 (z.epoch + 1)) := (by rw [hwa]; go_simp); have wa_c8 : wa.cell? ⟨a, 5, none⟩ = some (.int .i64 0) := (by rw [hwa]; go_simp); have wa_c9 : wa.cell? ⟨a, 6, none⟩ = some (.int .i64 0) := (by rw [hwa]; go_simp); have wa_c10 : wa.cell? ⟨a, 7, none⟩ = some (.string ⟨#[]⟩) := (by rw [hwa]; go_simp); have wa_c11 : wa.cell? ⟨a, 8, none⟩ = some (.int .i64 0) := (by rw [hwa]; go_simp); have wa_c12 : wa.cell? ⟨b, 0, none⟩ = some (.int .i64 z.id) := (by rw [hwa]; go_simp); have wa_f12 : wa.frozen? ⟨b, 0, none⟩ = false := (by rw [hwa]; go_simp); have wa_c13 : wa.cell? ⟨b, 1, none⟩ = some (.string z.fr) := (by rw [hwa]; go_simp); have wa_f13 : wa.frozen? ⟨b, 1, none⟩ = false := (by rw [hwa]; go_simp); have wa_c14 : wa.cell? ⟨b, 2, none⟩ = some (.string z.to) := (by rw [hwa]; go_simp); have wa_f14 : wa.frozen? ⟨b, 2, none⟩ = false := (by rw [hwa]; go_simp); have wa_c15 : wa.cell? ⟨b, 3, none⟩ = some (.int .i64 z.owner) := (by rw [hwa]; go_simp); have wa_c16 : wa.cell? ⟨b, 4, none⟩ = some (.int .i64 (z.epoch + 1)) := (by rw [hwa]; go_simp); have wa_c17 : wa.cell? ⟨b, 5, none⟩ = some (.int .i64 0) := (by rw [hwa]; go_simp); have wa_c18 : wa.cell? ⟨b, 6, none⟩ = some (.int .i64 0) := (by rw [hwa]; go_simp); have wa_c19 : wa.cell? ⟨b, 7, none⟩ = some (.string ⟨#[]⟩) := (by rw [hwa]; go_simp); have wa_c20 : wa.cell? ⟨b, 8, none⟩ = some (.int .i64 0) := (by rw [hwa]; go_simp); have wa_b : Below w.heap.size w wa := (by rw [hwa]; exact (by repeat (first | with_reducible exact Below.refl _ _ | with_reducible assumption | with_reducible refine Below.drew ?_ | with_reducible refine below_drawn ?_ | with_reducible refine Below.alloc ?_ (by first | omega | (simp; done) | (simp; omega) | (simp at *; omega)) _ | with_reducible refine Below.setCell ?_ (by first | omega | (simp; done) | (simp; omega) | (simp at *; omega)) _ | with_reducible refine Below.trans ?_ (Below.mono (by assumption) (by first | omega | (simp; done) | (simp; omega) | (simp at *; omega)))))); clear hwa)
    clear la a0 a1 a2 a3 a4 a5 a6 a7 a8 fa0 fa1 fa2 lb b0 b1 b2 b3 b4 b5 b6 b7 b8 fb0 fb1 fb2 lz z0' z1 z2 z3 z4 z5 z6 z7 z8 xp wc_b
    refine (Hcut.out _).mono ?_
    (rintro e w1 ⟨rfl, w1_h⟩; obtain ⟨w1_hc, w1_hf⟩ := bcell w1_h; have w1_z := w1_h.size; have w1_b := wa_b.trans (w1_h.mono (by have := wa_b.size; omega)); have w1_le := w1_b.size; have w1_s0 : p < w1.heap.size := (by omega); have w1_s1 : g < w1.heap.size := (by omega); have w1_s2 : a < w1.heap.size := (by omega); have w1_s3 : b < w1.heap.size := (by omega); have w1_s4 : w.heap.size + 1 < w1.heap.size := (by omega); clear w1_h)
    go_wp2_with fail
    (refine wp_name fun wb hwb => ?_; have wb_s0 : p < wb.heap.size := (by rw [hwb]; first | omega | (simp; done) | (simp; omega)); have wb_s1 : g < wb.heap.size := (by rw [hwb]; first | omega | (simp; done) | (simp; omega)); have wb_s2 : a < wb.heap.size := (by rw [hwb]; first | omega | (simp; done) | (simp; omega)); have wb_s3 : b < wb.heap.size := (by rw [hwb]; first | omega | (simp; done) | (simp; omega)); have wb_c0 : wb.cell? ⟨p, 2, none⟩ = some (.slice (some ⟨g, 0, none⟩) n zc) := (by rw [hwb]; go_simp); have wb_c1 : wb.cell? ⟨a, 0, none⟩ = some (.int .i64 z.id) := (by rw [hwb]; go_simp); have wb_c2 : wb.cell? ⟨a, 1, none⟩ = some (.string z.fr) := (by rw [hwb]; go_simp); have wb_c3 : wb.cell? ⟨a, 2, none⟩ = some (.string z.key) := (by rw [hwb]; go_simp); have wb_c4 : wb.cell? ⟨a, 3, none⟩ = some (.int .i64 z.owner) := (by rw [hwb]; go_simp); have wb_c5 : wb.cell? ⟨a, 4, none⟩ = some (.int .i64 (z.epoch + 1)) := (by rw [hwb]; go_simp); have wb_c6 : wb.cell? ⟨a, 5, none⟩ = some (.int .i64 0) := (by rw [hwb]; go_simp); have wb_c7 : wb.cell? ⟨a, 6, none⟩ = some (.int .i64 0) := (by rw [hwb]; go_simp); have wb_c8 : wb.cell? ⟨a, 7, none⟩ = some (.string ⟨#[]⟩) := (by rw [hwb]; go_simp); have wb_c9 : wb.cell? ⟨a, 8, none⟩ = some (.int .i64 0) := (by rw [hwb]; go_simp); have wb_c10 : wb.cell? ⟨b, 0, none⟩ = some (.int .i64 z.nw) := (by rw [hwb]; go_simp); have wb_c11 : wb.cell? ⟨b, 1, none⟩ = some (.string z.key) := (by rw [hwb]; go_simp); have wb_c12 : wb.cell? ⟨b, 2, none⟩ = some (.string z.to) := (by rw [hwb]; go_simp); have wb_c13 : wb.cell? ⟨b, 3, none⟩ = some (.int .i64 z.owner) := (by rw [hwb]; go_simp); have wb_c14 : wb.cell? ⟨b, 4, none⟩ = some (.int .i64 (z.epoch + 1)) := (by rw [hwb]; go_simp); have wb_c15 : wb.cell? ⟨b, 5, none⟩ = some (.int .i64 0) := (by rw [hwb]; go_simp); have wb_c16 : wb.cell? ⟨b, 6, none⟩ = some (.int .i64 0) := (by rw [hwb]; go_simp); have wb_c17 : wb.cell? ⟨b, 7, none⟩ = some (.string ⟨#[]⟩) := (by rw [hwb]; go_simp); have wb_c18 : wb.cell? ⟨b, 8, none⟩ = some (.int .i64 0) := (by rw [hwb]; go_simp); have wb_b : Below w.heap.size w wb := (by rw [hwb]; exact (by repeat (first | with_reducible exact Below.refl _ _ | with_reducible assumption | with_reducible refine Below.drew ?_ | with_reducible refine below_drawn ?_ | with_reducible refine Below.alloc ?_ (by first | omega | (simp; done) | (simp; omega) | (simp at *; omega)) _ | with_reducible refine Below.setCell ?_ (by first | omega | (simp; done) | (simp; omega) | (simp at *; omega)) _ | with_reducible refine Below.trans ?_ (Below.mono (by assumption) (by first | omega | (simp; done) | (simp; omega) | (simp at *; omega)))))); clear hwb)
    have wb_le := wb_b.size
    obtain ⟨xc, xf⟩ := bcell wb_b
    clear wa_s0 wa_s1 wa_s2 wa_s3 wa_s4 wa_c0 w1_hc w1_hf
    go_still_tail 8, (by kernel_rfl)
    change wpList _ _ _ _ _ (World.drew _)
    go_wp2_with fail
    refine wp_name fun w2 hw2 => ?_
    have HS : Hid (St W w2 (thDir 76 W.heap.size p g zc { m with zs := m.zs.set i (Zn.mk z.id z.fr z.key z.owner (z.epoch + 1) 0 0 z0 0) } ho hl hc :: L)) := by
      rw [hw2]; exact Lib.hid (((H.out.grow wb_b).dirNine i (by rw [← Hn.out]; exact hil) (Zn.mk z.id z.fr z.key z.owner (z.epoch + 1) 0 0 z0 0)).grow (Below.refl _ _).drew)
    have k0 : w2.cell? ⟨p, 2, none⟩ = some (.slice (some ⟨g, 0, none⟩) n zc) := (by rw [hw2]; go_simp)
    have q0 : w2.cell? ⟨b, 0, none⟩ = some (.int .i64 z.nw) := (by rw [hw2]; go_simp)
    have q1 : w2.cell? ⟨b, 1, none⟩ = some (.string z.key) := (by rw [hw2]; go_simp)
    have q2 : w2.cell? ⟨b, 2, none⟩ = some (.string z.to) := (by rw [hw2]; go_simp)
    have q3 : w2.cell? ⟨b, 3, none⟩ = some (.int .i64 z.owner) := (by rw [hw2]; go_simp)
    have q4 : w2.cell? ⟨b, 4, none⟩ = some (.int .i64 (z.epoch + 1)) := (by rw [hw2]; go_simp)
    have q5 : w2.cell? ⟨b, 5, none⟩ = some (.int .i64 0) := (by rw [hw2]; go_simp)
    have q6 : w2.cell? ⟨b, 6, none⟩ = some (.int .i64 0) := (by rw [hw2]; go_simp)
    have q7 : w2.cell? ⟨b, 7, none⟩ = some (.string ⟨#[]⟩) := (by rw [hw2]; go_simp)
    have q8 : w2.cell? ⟨b, 8, none⟩ = some (.int .i64 0) := (by rw [hw2]; go_simp)
    have s0 : p < w2.heap.size := by rw [hw2]; simpa using wb_s0
    have s1 : g < w2.heap.size := by rw [hw2]; simpa using wb_s1
    have s2 : b < w2.heap.size := by rw [hw2]; simpa using wb_s3
    have kf : w2.frozen? ⟨p, 2, none⟩ = false := (dir_cells HS.out.head).2.2.2.2.2 2
    have hinl : i + 1 ≤ (m.zs.set i (Zn.mk z.id z.fr z.key z.owner (z.epoch + 1) 0 0 z0 0)).length := by rw [List.length_set, ← Hn.out]; omega
    have Hinl := Lib.hid hinl
    clear hinl
    clear hw2 xc xf wb_s0 wb_s1 wb_s2 wb_s3 wb_c0 wb_c1 wb_c2 wb_c3 wb_c4 wb_c5 wb_c6 wb_c7 wb_c8 wb_c9 wb_c10 wb_c11 wb_c12 wb_c13 wb_c14 wb_c15 wb_c16 wb_c17 wb_c18 d0 d1 d2 d3 d4 d5 d6 d7 d8 hfg wb_b
    have HI : Hid (∀ w3, Below w2.heap.size w2 w3 → w3.heap[w2.heap.size]? = some (.cells #[.int .i64 z.nw, .string z.key, .string z.to, .int .i64 z.owner, .int .i64 (z.epoch + 1), .int .i64 0, .int .i64 0, .string ⟨#[]⟩, .int .i64 0] 39 (0, 0)) → Calls Try.prog 79 #[.slice (some ⟨g, 0, none⟩) n zc, .int .i64 ((i : Int) + 1), .slice (some ⟨w2.heap.size, 0, none⟩) 1 1] w3 (InsPost p (.slice (some ⟨g, 0, none⟩) n zc) n (fun g' c' w' => St W (w'.setCell ⟨p, 2, none⟩ (.slice (some ⟨g', 0, none⟩) (n + 1) c')) (thDir 76 W.heap.size p g' c' { m with zs := m.zs.take i ++ Zn.mk z.id z.fr z.key z.owner (z.epoch + 1) 0 0 z0 0 :: Zn.mk z.nw z.key z.to z.owner (z.epoch + 1) 0 0 z0 0 :: m.zs.drop (i + 1) } ho hl hc :: L)))) := by
      intro w3 hb3 hv3
      have S3 := HS.out.grow hb3
      have hl2 : n = (m.zs.set i (Zn.mk z.id z.fr z.key z.owner (z.epoch + 1) 0 0 z0 0)).length := by rw [List.length_set, ← Hn.out]
      have hins := insert_any (z := Zn.mk z.nw z.key z.to z.owner (z.epoch + 1) 0 0 z0 0) (i + 1) Hinl.out S3.head.2.1 (by rw [← hl2]; have := Hm.out; omega) w2.heap.size (by omega) hv3 S3.b.size
      rw [← hl2] at hins
      refine hins.mono ?_
      rintro e w' ⟨g', c', rfl, ho', hk, hg'⟩
      have hp3 : p < w3.heap.size := Nat.lt_of_lt_of_le s0 hb3.size
      refine ⟨g', c', rfl, (hk.cell (p := ⟨p, 2, none⟩) hp3 hpg).trans ((hb3.cell (p := ⟨p, 2, none⟩) s0).trans k0), (hk.frozen (p := ⟨p, 2, none⟩) hp3 hpg).trans ((hb3.frozen (p := ⟨p, 2, none⟩) s0).trans kf), ?_⟩
      have hset : (m.zs.set i (Zn.mk z.id z.fr z.key z.owner (z.epoch + 1) 0 0 z0 0)).take (i + 1) ++ Zn.mk z.nw z.key z.to z.owner (z.epoch + 1) 0 0 z0 0 :: (m.zs.set i (Zn.mk z.id z.fr z.key z.owner (z.epoch + 1) 0 0 z0 0)).drop (i + 1) = m.zs.take i ++ Zn.mk z.id z.fr z.key z.owner (z.epoch + 1) 0 0 z0 0 :: Zn.mk z.nw z.key z.to z.owner (z.epoch + 1) 0 0 z0 0 :: m.zs.drop (i + 1) := set_ins m.zs i (by rw [← Hn.out]; exact hil) _ _
      rw [hset] at ho'
      exact S3.dirRow hk ho' hg' (n + 1) (ins_len hil Hn.out _ _)
    have hn16 : n ≤ 16 := Hm.out
    have x1 : IntKind.i64.wrap ((i : Int) + 1) = (i : Int) + 1 := by rw [IntKind.wrap_i64]; omega
    clear Hinl
    go_region_law (first | (refine at_goD 79 _ _ (by rfl) ?_; go_simp; go_at_call 79; (refine (HI.out _ (by repeat (first | with_reducible exact Below.refl _ _ | with_reducible assumption | with_reducible refine Below.drew ?_ | with_reducible refine below_drawn ?_ | with_reducible refine Below.alloc ?_ (by first | omega | (simp; done) | (simp; omega) | (simp at *; omega)) _ | with_reducible refine Below.setCell ?_ (by first | omega | (simp; done) | (simp; omega) | (simp at *; omega)) _ | with_reducible refine Below.trans ?_ (Below.mono (by assumption) (by first | omega | (simp; done) | (simp; omega) | (simp at *; omega))))) (by first | exact heap_new w2.drew _ | exact heap_new w2 _)).mono ?_); rintro e W' ⟨g', c', rfl, hkp, hkf, HW⟩) | fail)
    all_goals
      go_wp2_with fail
      go_ret
      exact chPost_yes rfl HW
end Go.Proofs.Ytobnibdeimiinaa
