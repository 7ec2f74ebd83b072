/- Any reply as bytes, and any bytes as a reply: the statement OpReplies, for every reply and all bytes. -/
import Derived.Test.YtglidhbkglfkeaaRepD
import Derived.Test.YtglidhbkglfkeaaLawA
import Derived.Test.YtglidhbkglfkeaaOpenB
import Derived.Test.YtglidhbkglfkeaaOpenOp
import Derived.Test.YtglidhbkglfkeaaRows
namespace Go.Proofs.Ytglidhbkglfkeaa
open Go.ChangeShapes Go.WideShapes Go.Deep Go.Joins Go.RowKit

theorem intInfo : ((Try.prog.info? 3).isSome) = true := by kernel_rfl
theorem eql_itemsF (i : It) (w : World) : (Op.equalIn 9999 43 (.agg #[.int .i64 i.a, .int .i64 i.b, .int .i64 i.c, .int .i64 i.d]) (.agg #[.int .i64 i.a, .int .i64 i.b, .int .i64 i.c, .int .i64 i.d])).run Try.prog w = .ok true w := by
  obtain ⟨inf, hinf⟩ := Option.isSome_iff_exists.1 intInfo
  have hc : Try.prog.cellsOf 3 = 1 := by kernel_rfl
  have hp : Try.prog.plainKey 3 = true := by kernel_rfl
  have p : ∀ (xs : Array Value) (k : Nat) (v : Value), xs[k]? = some v → (part 3 xs k).run Try.prog w = .ok v w := fun xs k v h => run_part_plain w hp h
  have e : ∀ a b : Int, (Op.equalIn 9998 3 (.int .i64 a) (.int .i64 b)).run Try.prog w = .ok (a == b) w := fun a b => run_equalIn_int w 9997 _ _ _ a b Try.underlying3
  have a0 := p #[.int .i64 i.a, .int .i64 i.b, .int .i64 i.c, .int .i64 i.d] 0 _ rfl
  have a1 := p #[.int .i64 i.a, .int .i64 i.b, .int .i64 i.c, .int .i64 i.d] 1 _ rfl
  have a2 := p #[.int .i64 i.a, .int .i64 i.b, .int .i64 i.c, .int .i64 i.d] 2 _ rfl
  have a3 := p #[.int .i64 i.a, .int .i64 i.b, .int .i64 i.c, .int .i64 i.d] 3 _ rfl
  rw [run_equalIn_array w 9998 _ _ Try.underlying43 hinf, hc, show List.range 4 = [0, 1, 2, 3] from rfl]
  simp [Op.eqItems, Sem.run_bind, a0, a1, a2, a3, e]
set_option maxHeartbeats 1000000 in
theorem eql_rep (r : Rp) (w : World) : (Op.equalIn 10000 45 (.agg #[.int .i64 r.err, .int .i64 r.id, .int .i64 r.i.a, .int .i64 r.i.b, .int .i64 r.i.c, .int .i64 r.i.d]) (.agg #[.int .i64 r.err, .int .i64 r.id, .int .i64 r.i.a, .int .i64 r.i.b, .int .i64 r.i.c, .int .i64 r.i.d])).run Try.prog w = .ok true w := by
  have h := eql_itemsF r.i w
  go_simp
section
variable {H : Type} {enc : TypeId × Value → H} {w : World}
theorem trod_items {fuel base : Nat} {c0 c1 c2 c3 : Value} {x : DataW H × List MemPlace} (h : DataW.trod enc Try.prog w base (fun _ => true) true fuel 43 [c0, c1, c2, c3] = some x) : ∃ i : It, c0 = .int .i64 i.a ∧ c1 = .int .i64 i.b ∧ c2 = .int .i64 i.c ∧ c3 = .int .i64 i.d := by
  obtain ⟨xs, m, -, -, -, hl, hi⟩ := DataW.trod_array Try.underlying43 h
  have hc : Try.prog.cellsOf 3 = 1 := by kernel_rfl
  rw [hc] at hi
  have g : ∀ i c, i < 4 → (([c0, c1, c2, c3] : List Value).drop (i * 1)).take 1 = [c] → ∃ n : Int, c = .int .i64 n := by
    intro i c h4 hcs
    have := hi i h4
    rw [hcs, List.getElem?_eq_getElem (by omega)] at this
    obtain ⟨n, e, -, -⟩ := DataW.trod_int Try.underlying3 this
    exact ⟨n, by simpa using e⟩
  obtain ⟨n0, rfl⟩ := g 0 c0 (by omega) (by simp)
  obtain ⟨n1, rfl⟩ := g 1 c1 (by omega) (by simp)
  obtain ⟨n2, rfl⟩ := g 2 c2 (by omega) (by simp)
  obtain ⟨n3, rfl⟩ := g 3 c3 (by omega) (by simp)
  exact ⟨⟨n0, n1, n2, n3⟩, rfl, rfl, rfl, rfl⟩
theorem list6 {α : Type} {l : List α} (h : l.length = 6) : ∃ a b c d e f, l = [a, b, c, d, e, f] := by
  match l, h with
  | [a, b, c, d, e, f], _ => exact ⟨a, b, c, d, e, f, rfl⟩
set_option maxRecDepth 20000 in
theorem open_rep {v : Value} {d : DataW H} {p : List MemPlace} {b : Nat} (hv : Value.okWide Try.prog w .any b 45 v) (h : DataW.Trod enc Try.prog w 0 (fun _ => true) true 45 v d p) : ∃ r : Rp, v = .agg #[.int .i64 r.err, .int .i64 r.id, .int .i64 r.i.a, .int .i64 r.i.b, .int .i64 r.i.c, .int .i64 r.i.d] := by
  obtain ⟨cs, rfl, hsz⟩ := okWide_struct Try.underlying45 hv
  obtain ⟨c0, c1, c2, c3, c4, c5, hcs⟩ := list6 (show cs.toList.length = 6 by rw [Array.length_toList]; exact hsz.trans (by kernel_rfl))
  obtain ⟨fuel, hf⟩ := h
  simp only [Value.cells, hcs] at hf
  obtain ⟨xs, n, -, -, hl, hlen, hg⟩ := DataW.trod_struct Try.underlying45 hf
  have e3 : Try.prog.cellsOf 3 = 1 := by kernel_rfl
  have e4 : Try.prog.cellsOf 28 = 1 := by kernel_rfl
  have e23 : Try.prog.cellsOf 43 = 4 := by kernel_rfl
  have hx : ∀ i, i < 3 → ∃ y, xs[i]? = some y := fun i hi => ⟨_, List.getElem?_eq_getElem (by rw [hlen]; exact hi)⟩
  have g0 := hg 0 _ rfl
  obtain ⟨y0, hy0⟩ := hx 0 (by decide)
  rw [hy0] at g0
  simp only [List.getElem_toArray] at g0
  (try simp only [List.getElem_cons_succ] at g0); (try simp only [List.getElem_cons_zero] at g0); (try simp only [e3] at g0); (try simp only [e4] at g0); (try simp only [e23] at g0); (try simp only [List.drop_zero] at g0); (try simp only [List.drop_succ_cons] at g0); (try simp only [List.drop_zero] at g0); (try simp only [List.take_succ_cons] at g0); (try simp only [List.take_zero] at g0)
  have g1 := hg 1 _ rfl
  obtain ⟨y1, hy1⟩ := hx 1 (by decide)
  rw [hy1] at g1
  simp only [List.getElem_toArray] at g1
  (try simp only [List.getElem_cons_succ] at g1); (try simp only [List.getElem_cons_zero] at g1); (try simp only [e3] at g1); (try simp only [e4] at g1); (try simp only [e23] at g1); (try simp only [List.drop_zero] at g1); (try simp only [List.drop_succ_cons] at g1); (try simp only [List.drop_zero] at g1); (try simp only [List.take_succ_cons] at g1); (try simp only [List.take_zero] at g1)
  have g2 := hg 2 _ rfl
  obtain ⟨y2, hy2⟩ := hx 2 (by decide)
  rw [hy2] at g2
  simp only [List.getElem_toArray] at g2
  (try simp only [List.getElem_cons_succ] at g2); (try simp only [List.getElem_cons_zero] at g2); (try simp only [e3] at g2); (try simp only [e4] at g2); (try simp only [e23] at g2); (try simp only [List.drop_zero] at g2); (try simp only [List.drop_succ_cons] at g2); (try simp only [List.drop_zero] at g2); (try simp only [List.take_succ_cons] at g2); (try simp only [List.take_zero] at g2)
  obtain ⟨n0, q0, -⟩ := DataW.trod_int Try.underlying28 g0
  obtain ⟨n1, q1, -⟩ := DataW.trod_int Try.underlying3 g1
  obtain ⟨i, rfl, rfl, rfl, rfl⟩ := trod_items g2
  simp only [List.cons.injEq, and_true] at q0 q1
  subst q0 q1
  refine ⟨⟨n0, n1, i⟩, ?_⟩
  rw [← hcs]
end
set_option maxRecDepth 40000 in
set_option maxHeartbeats 4000000 in
theorem replies_any (r : Rp) (ao : Option Addr) (cap : Nat) (l : List UInt8) (w : World) (hlc : l.length ≤ cap) (hcm : cap ≤ 9223372036854775807) (h0 : ao = none → l.length = 0 ∧ cap = 0) (ha : BAt w ao l) :
    Calls Try.prog 7 #[.agg #[.int .i64 r.err, .int .i64 r.id, .int .i64 r.i.a, .int .i64 r.i.b, .int .i64 r.i.c, .int .i64 r.i.d], .slice ao l.length cap] w fun e w' => e = .returned (.bool true) ∧ Below w.heap.size w w' := by
  have Ha := Lib.hid ha
  have H0 := Lib.hid h0
  clear ha h0
  by_cases hbig : (2000 : Int) < l.length
  · go_enter Try.func7, Try.ntmps7
    go_wp2_with fail
    go_ret
    exact ⟨rfl, (by repeat (first | with_reducible exact Below.refl _ _ | with_reducible assumption | with_reducible refine Below.drew ?_ | with_reducible refine below_drawn ?_ | with_reducible refine Below.alloc ?_ (by first | omega | (simp; done) | (simp; omega) | (simp at *; omega)) _ | with_reducible refine Below.setCell ?_ (by first | omega | (simp; done) | (simp; omega) | (simp at *; omega)) _ | with_reducible refine Below.trans ?_ (Below.mono (by assumption) (by first | omega | (simp; done) | (simp; omega) | (simp at *; omega)))))⟩
  have hm : l.length ≤ 2000 := by omega
  have Hd := Lib.hid (fun ao cap w h0 ha => decrep_any ao cap l w h0 ha hm)
  have Hrd := Lib.hid (fun w h0 ha => rdecrep_any ao cap l w hlc hcm h0 ha hm)
  obtain ⟨q, hq⟩ : ∃ q, q = repR l := ⟨_, rfl⟩
  obtain ⟨E, hE⟩ : ∃ E, E = repE l := ⟨_, rfl⟩
  have hEE : (E != E) = false := by simp
  have heq := fun w => eql_rep q w
  have Hq := Lib.hid hq
  have HE := Lib.hid hE
  clear hq hE
  cases hmy : mayR r with
  | true =>
    have He := Lib.hid (fun w => encrep_yes r w hmy)
    have Hr := Lib.hid (fun w => rencrep_yes r w hmy)
    have HR : Hid (repR (encP r) = r ∧ repE (encP r) = 0) := by
      obtain ⟨h1, h2⟩ := rpOf_enc hmy
      have h3 := repR_yes h1
      exact ⟨h3.1.trans h2, h3.2⟩
    have hsz : (encP r).length ≤ 2000 := by have := encP_len r; simp only [encP, List.length_append]; omega
    have Hd2 := Lib.hid (fun ao cap w h0 ha => decrep_any ao cap (encP r) w h0 ha hsz)
    have heq2 := fun w => eql_rep r w
    unfold RepPost at He Hr
    obtain ⟨X, hX⟩ : ∃ X, X = encP r := ⟨_, rfl⟩
    rw [← hX] at He Hr Hd2 HR
    clear hX hmy hsz
    obtain ⟨s, hs⟩ : ∃ s : ByteArray, s = ⟨X.toArray⟩ := ⟨_, rfl⟩
    have Hs := Lib.hid hs
    have hs2 : (s.toList == s.toList) = true := by simp
    clear hs
    go_enter Try.func7, Try.ntmps7
    go_wp2_with fail
    (refine calls_name fun wa hwa => ?_; have wa_s0 : w.heap.size < wa.heap.size := (by rw [hwa]; first | omega | (simp; done) | (simp; omega)); have wa_c0 : wa.cell? ⟨w.heap.size, 0, none⟩ = some (.int .i64 r.err) := (by rw [hwa]; go_simp); have wa_c1 : wa.cell? ⟨w.heap.size, 1, none⟩ = some (.int .i64 r.id) := (by rw [hwa]; go_simp); have wa_c2 : wa.cell? ⟨w.heap.size, 2, none⟩ = some (.int .i64 r.i.a) := (by rw [hwa]; go_simp); have wa_c3 : wa.cell? ⟨w.heap.size, 3, none⟩ = some (.int .i64 r.i.b) := (by rw [hwa]; go_simp); have wa_c4 : wa.cell? ⟨w.heap.size, 4, none⟩ = some (.int .i64 r.i.c) := (by rw [hwa]; go_simp); have wa_c5 : wa.cell? ⟨w.heap.size, 5, none⟩ = some (.int .i64 r.i.d) := (by rw [hwa]; go_simp); have wa_b : Below w.heap.size w wa := (by rw [hwa]; exact (by repeat (first | with_reducible exact Below.refl _ _ | with_reducible assumption | with_reducible refine Below.drew ?_ | with_reducible refine below_drawn ?_ | with_reducible refine Below.alloc ?_ (by first | omega | (simp; done) | (simp; omega) | (simp at *; omega)) _ | with_reducible refine Below.setCell ?_ (by first | omega | (simp; done) | (simp; omega) | (simp at *; omega)) _ | with_reducible refine Below.trans ?_ (Below.mono (by assumption) (by first | omega | (simp; done) | (simp; omega) | (simp at *; omega)))))); clear hwa)
    refine (He.out _).mono ?_
    rintro e w1 ⟨xo, xc, rfl, hox, hb1⟩
    have w1_b : Below w.heap.size w w1 := wa_b.trans (hb1.mono (by omega))
    obtain ⟨h1c, h1f⟩ := bcell hb1
    have s1 : w.heap.size < w1.heap.size := by have := hb1.size; omega
    have Hx1 := Lib.hid hox
    clear hox hb1
    go_wp2_with fail
    refine (Hr.out _).mono ?_
    rintro e w2 ⟨yo, yc, rfl, hoy, hb2⟩
    have w2_b : Below w.heap.size w w2 := w1_b.trans (hb2.mono (by omega))
    obtain ⟨h2c, h2f⟩ := bcell hb2
    have s2 : w.heap.size < w2.heap.size := by have := hb2.size; omega
    have Hx2 := Lib.hid (own_growO Hx1.out hb2)
    have Hy2 := Lib.hid hoy
    clear hoy hb2
    go_wp2_with fail
    refine (Hd.out ao cap _ H0.out (Ha.out.below w2_b)).mono ?_
    rintro e w3 ⟨rfl, hb3⟩
    rw [← Hq.out, ← HE.out]
    have w3_b : Below w.heap.size w w3 := w2_b.trans (hb3.mono (by omega))
    obtain ⟨h3c, h3f⟩ := bcell hb3
    have s3 : w.heap.size < w3.heap.size := by have := hb3.size; omega
    have Hx3 := Lib.hid (own_growO Hx2.out hb3)
    have Hy3 := Lib.hid (own_growO Hy2.out hb3)
    have w3_s := w3_b.size
    clear hb3
    go_wp2_with fail
    have w3_d := w3_b.alloc w3_s (.cells #[.int .i64 q.err, .int .i64 q.id, .int .i64 q.i.a, .int .i64 q.i.b, .int .i64 q.i.c, .int .i64 q.i.d] 45)
    refine (Hrd.out _ H0.out (Ha.out.below w3_d)).mono ?_
    rintro e w4 ⟨rfl, hb4⟩
    rw [← Hq.out, ← HE.out]
    have w4_b : Below w.heap.size w w4 := w3_d.trans (hb4.mono w3_d.size)
    obtain ⟨h4c, h4f⟩ := bcell hb4
    have z4 := hb4.size
    simp only [World.alloc, Array.size_push] at z4
    have s4 : w.heap.size < w4.heap.size := by omega
    have t4 : w3.heap.size < w4.heap.size := by omega
    have u4 : w.heap.size < w3.heap.size + 1 := by omega
    have hb34 : Below w3.heap.size w3 w4 := (below_allocO w3 _).trans (hb4.mono (by simp))
    have Hx4 := Lib.hid (own_growO Hx3.out hb34)
    have Hy4 := Lib.hid (own_growO Hy3.out hb34)
    have w4_s := w4_b.size
    have hcvx : ∀ o, (convert 27 9 (.slice xo X.length xc)).run Try.prog (w4.alloc o) = .ok (.string s) (w4.alloc o) := fun o => by
      rw [Hs.out]; exact conv_str (Hx4.out.at.below (below_allocO w4 o)) xc
    have hcvy : ∀ o, (convert 27 9 (.slice yo X.length yc)).run Try.prog (w4.alloc o) = .ok (.string s) (w4.alloc o) := fun o => by
      rw [Hs.out]; exact conv_str (Hy4.out.at.below (below_allocO w4 o)) yc
    clear hb4 hb34
    go_wp2_with fail
    have w4_d := w4_b.alloc w4_s (.cells #[.int .i64 q.err, .int .i64 q.id, .int .i64 q.i.a, .int .i64 q.i.b, .int .i64 q.i.c, .int .i64 q.i.d] 45)
    have hb44 := below_allocO w4 (.cells #[.int .i64 q.err, .int .i64 q.id, .int .i64 q.i.a, .int .i64 q.i.b, .int .i64 q.i.c, .int .i64 q.i.d] 45)
    refine (Hd2.out xo xc _ Hx4.out.none (Hx4.out.at.below hb44)).mono ?_
    rintro e w5 ⟨rfl, hb5⟩
    rw [HR.out.1, HR.out.2]
    have w5_b : Below w.heap.size w w5 := w4_d.trans (hb5.mono w4_d.size)
    obtain ⟨h5c, h5f⟩ := bcell hb5
    have z5 := hb5.size
    simp only [World.alloc, Array.size_push] at z5
    have s5 : w.heap.size < w5.heap.size := by omega
    have u5 : w.heap.size < w4.heap.size + 1 := by omega
    clear hb5 hcvx hcvy hb44
    go_wp2_with fail
    have w5_d := w5_b.alloc w5_b.size (.cells #[.int .i64 r.err, .int .i64 r.id, .int .i64 r.i.a, .int .i64 r.i.b, .int .i64 r.i.c, .int .i64 r.i.d] 45)
    refine (known_any _).mono ?_
    rintro e w6 ⟨rfl, hb6⟩
    have w6_b : Below w.heap.size w w6 := w5_d.trans (hb6.mono w5_d.size)
    clear hb6
    go_wp2_with fail
    go_ret
    exact ⟨rfl, w6_b⟩
  | false =>
    have He := Lib.hid (fun w => encrep_no r w hmy)
    have Hr := Lib.hid (fun w => rencrep_no r w hmy)
    have Hd2 := Lib.hid (fun w => decrep_any none 0 [] w (fun _ => ⟨rfl, rfl⟩) BAt.nil (by simp))
    clear hmy
    obtain ⟨q2, hq2⟩ : ∃ q2, q2 = repR [] := ⟨_, rfl⟩
    obtain ⟨E2, hE2⟩ : ∃ E2, E2 = repE [] := ⟨_, rfl⟩
    have Hq2 := Lib.hid hq2
    have HE2 := Lib.hid hE2
    clear hq2 hE2
    go_enter Try.func7, Try.ntmps7
    go_wp2_with fail
    (refine calls_name fun wa hwa => ?_; have wa_s0 : w.heap.size < wa.heap.size := (by rw [hwa]; first | omega | (simp; done) | (simp; omega)); have wa_c0 : wa.cell? ⟨w.heap.size, 0, none⟩ = some (.int .i64 r.err) := (by rw [hwa]; go_simp); have wa_c1 : wa.cell? ⟨w.heap.size, 1, none⟩ = some (.int .i64 r.id) := (by rw [hwa]; go_simp); have wa_c2 : wa.cell? ⟨w.heap.size, 2, none⟩ = some (.int .i64 r.i.a) := (by rw [hwa]; go_simp); have wa_c3 : wa.cell? ⟨w.heap.size, 3, none⟩ = some (.int .i64 r.i.b) := (by rw [hwa]; go_simp); have wa_c4 : wa.cell? ⟨w.heap.size, 4, none⟩ = some (.int .i64 r.i.c) := (by rw [hwa]; go_simp); have wa_c5 : wa.cell? ⟨w.heap.size, 5, none⟩ = some (.int .i64 r.i.d) := (by rw [hwa]; go_simp); have wa_b : Below w.heap.size w wa := (by rw [hwa]; exact (by repeat (first | with_reducible exact Below.refl _ _ | with_reducible assumption | with_reducible refine Below.drew ?_ | with_reducible refine below_drawn ?_ | with_reducible refine Below.alloc ?_ (by first | omega | (simp; done) | (simp; omega) | (simp at *; omega)) _ | with_reducible refine Below.setCell ?_ (by first | omega | (simp; done) | (simp; omega) | (simp at *; omega)) _ | with_reducible refine Below.trans ?_ (Below.mono (by assumption) (by first | omega | (simp; done) | (simp; omega) | (simp at *; omega)))))); clear hwa)
    refine (He.out _).mono ?_
    rintro e w1 ⟨rfl, hb1⟩
    have w1_b : Below w.heap.size w w1 := wa_b.trans (hb1.mono (by omega))
    obtain ⟨h1c, h1f⟩ := bcell hb1
    have s1 : w.heap.size < w1.heap.size := by have := hb1.size; omega
    clear hb1
    go_wp2_with fail
    refine (Hr.out _).mono ?_
    rintro e w2 ⟨rfl, hb2⟩
    have w2_b : Below w.heap.size w w2 := w1_b.trans (hb2.mono (by omega))
    obtain ⟨h2c, h2f⟩ := bcell hb2
    have s2 : w.heap.size < w2.heap.size := by have := hb2.size; omega
    clear hb2
    go_wp2_with fail
    refine (Hd.out ao cap _ H0.out (Ha.out.below w2_b)).mono ?_
    rintro e w3 ⟨rfl, hb3⟩
    rw [← Hq.out, ← HE.out]
    have w3_b : Below w.heap.size w w3 := w2_b.trans (hb3.mono (by omega))
    obtain ⟨h3c, h3f⟩ := bcell hb3
    have s3 : w.heap.size < w3.heap.size := by have := hb3.size; omega
    have w3_s := w3_b.size
    clear hb3
    go_wp2_with fail
    have w3_d := w3_b.alloc w3_s (.cells #[.int .i64 q.err, .int .i64 q.id, .int .i64 q.i.a, .int .i64 q.i.b, .int .i64 q.i.c, .int .i64 q.i.d] 45)
    refine (Hrd.out _ H0.out (Ha.out.below w3_d)).mono ?_
    rintro e w4 ⟨rfl, hb4⟩
    rw [← Hq.out, ← HE.out]
    have w4_b : Below w.heap.size w w4 := w3_d.trans (hb4.mono w3_d.size)
    obtain ⟨h4c, h4f⟩ := bcell hb4
    have z4 := hb4.size
    simp only [World.alloc, Array.size_push] at z4
    have s4 : w.heap.size < w4.heap.size := by omega
    have t4 : w3.heap.size < w4.heap.size := by omega
    have u4 : w.heap.size < w3.heap.size + 1 := by omega
    have w4_s := w4_b.size
    have hcv : ∀ w, (convert 27 9 (.slice none 0 0)).run Try.prog w = .ok (.string ⟨#[]⟩) w := fun w => conv_str (l := []) BAt.nil 0
    clear hb4
    go_wp2_with fail
    have w4_d := w4_b.alloc w4_s (.cells #[.int .i64 q.err, .int .i64 q.id, .int .i64 q.i.a, .int .i64 q.i.b, .int .i64 q.i.c, .int .i64 q.i.d] 45)
    refine (Hd2.out _).mono ?_
    rintro e w5 ⟨rfl, hb5⟩
    rw [← Hq2.out, ← HE2.out]
    have w5_b : Below w.heap.size w w5 := w4_d.trans (hb5.mono w4_d.size)
    clear hb5 hcv
    go_wp2_with fail
    have w5_d := w5_b.alloc w5_b.size (.cells #[.int .i64 q2.err, .int .i64 q2.id, .int .i64 q2.i.a, .int .i64 q2.i.b, .int .i64 q2.i.c, .int .i64 q2.i.d] 45)
    refine (known_any _).mono ?_
    rintro e w6 ⟨rfl, hb6⟩
    have w6_b : Below w.heap.size w w6 := w5_d.trans (hb6.mono w5_d.size)
    clear hb6
    go_wp2_with fail
    go_ret
    exact ⟨rfl, w6_b⟩
namespace OpRepliesLift
open Go.ChangeShapes Go.WideShapes Go.ChangeAt Go.RowKit Go.Joins Go.Deep
open Go.ChangeMaps (open_string shut_string)

theorem own : ownKnob Try.prog.godebug = none := by kernel_rfl
theorem laidOut : laidOutB Try.prog = true := by kernel_rfl

set_option maxHeartbeats 1000000 in
set_option maxRecDepth 100000 in
theorem lifted (os : Os) (started : os.Started) (H : Type) (enc : TypeId × Value → H) :
    ReturnsInHanded {} Try.checked os 7 .any (Rows.opRepliesSpec.pre6 enc Try.prog Try.f7 Rows.opRepliesRow.domain false) (Rows.opRepliesSpec.post enc Try.prog Try.f7 false true false false) := by
  refine returnsInHanded_of_change (C := Try.checked) own started (by kernel_rfl) Try.func7
    (ChangeSpec.witness6 (enc := enc) (C := Try.checked) false ⟨#[], #[.agg #[.int .i64 0, .int .i64 0, .int .i64 0, .int .i64 0, .int .i64 0, .int .i64 0], .slice none 0 0], []⟩ 8 (by kernel_rfl) (by kernel_rfl) (by kernel_rfl) (by kernel_rfl)) ?_
  intro W base args ds gs before hval0 hW hcnd _
  have hval : ∀ (j : Nat) t v, Try.f7.params[j]? = some t → args[j]? = some v → Value.okWide Try.prog W .any base t v := hval0
  have hW' := hW
  obtain ⟨p, q, hA0, hV, rfl, hfz, hnd⟩ := hW
  have hA : DataW.TrodAll enc Try.prog W 0 (fun _ => true) true Try.f7.params.toList args.toList ds p := hA0
  rw [Try.params7] at hA hval
  obtain ⟨v0, vs0, d0, ds0, p0, q0, hargs, rfl, rfl, h0, r0⟩ := trodAll_cons hA
  obtain ⟨v1, vs1, d1, ds1, p1, q1, rfl, rfl, rfl, h1, r1⟩ := trodAll_cons r0
  obtain ⟨rfl, rfl, rfl⟩ := trodAll_nil r1
  obtain rfl : args = #[v0, v1] := by cases args; simp_all
  obtain ⟨rfl, rfl⟩ := trodVars_none hV
  have k0 := h0
  have lt0 : ∀ x ∈ p0, x.block < W.heap.size := by obtain ⟨m, hm⟩ := k0; exact DataW.trod_lt m _ _ _ hm
  have k1 := h1
  have lt1 : ∀ x ∈ p1, x.block < W.heap.size := by obtain ⟨m, hm⟩ := k1; exact DataW.trod_lt m _ _ _ hm
  have post : ∀ e W', e = Ending.returned (.bool true) → Below W.heap.size W W' → ∃ v, e = .returned v ∧ Rows.opRepliesSpec.post enc Try.prog Try.f7 false true false false W #[v0, v1] v W' := by
    intro e W' he bel
    subst he
    exact ⟨_, rfl, _, _, _, [], _, [], hW', trodAll_mk1 (shut_bool Try.underlying4 _), (trodAll_cons_mk (Below.trod laidOut (by kernel_rfl) (of_decide_eq_true (by kernel_rfl)) k0 bel lt0) (trodAll_cons_mk (Below.trod laidOut (by kernel_rfl) (of_decide_eq_true (by kernel_rfl)) k1 bel lt1) trodAll_mk0)), rfl, bel.frame _, fun h => by cases h⟩
  clear hW' hcnd hfz hnd hA0 hA hval0
  obtain ⟨r, rfl⟩ := open_rep (hval 0 45 v0 rfl rfl) h0
  obtain ⟨ao, l, cap, rfl, hlc, hcm, h0', ha⟩ := open_bytes (hval 1 27 v1 rfl rfl) h1
  exact (replies_any r ao cap l W hlc (by unfold maxLen at hcm; exact hcm) h0' ha).mono fun e W' ⟨he, bel⟩ => post e W' he bel

theorem over : Rows.opRepliesRow.holds Try.pinned (OpenSpec.ofChange Rows.opRepliesSpec) :=
  OpenClaim.holds_of_wide 7 Try.f7 rfl rfl rfl rfl rfl rfl rfl ⟨rfl, rfl, rfl, rfl, rfl⟩ rfl rfl rfl rfl rfl (by kernel_rfl) Try.func7 (by kernel_rfl)
    (of_decide_eq_true (by kernel_rfl)) (by unfold Func.isWrapper; first | (rw [if_pos (by decide +kernel)]; kernel_rfl) | (rw [if_neg (by decide +kernel)]; exact ⟨rfl, rfl⟩))
    (fun os started H enc _ => lifted os started H enc)
end OpRepliesLift

/-- The statement. -/
theorem opReplies_holds : Rows.OpRepliesSaid := OpRepliesLift.over
#print axioms opReplies_holds
end Go.Proofs.Ytglidhbkglfkeaa
