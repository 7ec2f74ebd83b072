/- The contract of the document's Decode. -/
import Derived.Test.YtglidhbkglfkeaaDec
import Derived.Test.YtglidhbkglfkeaaRdOld
namespace Go.Proofs.Ytglidhbkglfkeaa
open Go.RowKit

set_option maxRecDepth 20000 in
set_option maxHeartbeats 1000000 in
theorem get_any {W w : World} {L : List Th} {p g : Nat} {rest : List UInt8} {bad : Bool} (h : St W w (thRO W p g rest bad :: L)) (hm : rest.length ≤ 140737488351232) (x : List UInt8) (r1 : List UInt8) (b1 : Bool) (hx : tookOf rest bad = (x, r1, b1)) (y : List UInt8) (r2 : List UInt8) (b2 : Bool) (hy : tookOf r1 b1 = (y, r2, b2)) :
    Calls Try.prog 37 #[.pointer (some ⟨p, 0, none⟩)] w fun e w' => e = .returned (.agg #[.string ⟨x.toArray⟩, .string ⟨y.toArray⟩]) ∧ St W w' (thRO W p g r2 b2 :: L) := by
  have H := Lib.hid h
  have Hx := Lib.hid hx
  have Hy := Lib.hid hy
  have Hl : Hid (r1.length ≤ rest.length) := (tookOf_le (x := x) (r' := r1) (b' := b1) hx.symm).2
  clear h hx hy
  go_enter Try.func37, Try.ntmps37
  go_wp2_with fail
  have S0 : Hid (St W _ (thRO W p g rest bad :: thObj w.heap.size (.cells #[.string ⟨#[]⟩, .string ⟨#[]⟩] 23 (0, 0)) :: L)) := (H.out.objN (.cells #[.string ⟨#[]⟩, .string ⟨#[]⟩] 23) w.heap.size rfl).pull (A := [_])
  clear H
  have hcall := St.readBytesO S0.out hm
  rw [Hx.out] at hcall
  refine hcall.mono ?_
  clear hcall S0
  rintro e w1 ⟨ao, ac, rfl, ho, hS⟩
  have S1 := Lib.hid hS
  have hcv := conv_str ho.at ac
  clear ho hS
  go_wp2_with fail
  clear hcv
  have hcall := St.readBytesO S1.out (by have := Hl.out; omega)
  rw [Hy.out] at hcall
  refine hcall.mono ?_
  clear hcall S1
  rintro e w2 ⟨bo, bc, rfl, ho, hS⟩
  have S2 := Lib.hid hS
  obtain ⟨hl1, hc1, hf1⟩ := S2.out.cellsN 1 rfl
  have hcv := conv_str ho.at bc
  clear ho hS
  go_wp2_with fail
  have S3 := Lib.hid ((((S2.out.pull (A := [_])).setObj 0 (.string ⟨x.toArray⟩)).setObj 1 (.string ⟨y.toArray⟩)).drop)
  refine bodyPost_ret (v := .agg #[.string ⟨x.toArray⟩, .string ⟨y.toArray⟩]) (by simp only [results, Try.results37]; go_simp) rfl ⟨rfl, S3.out⟩
/-- The numbers of what is read, one by one. -/
structure DIn (l : List UInt8) (d : Dq) (r3 : List UInt8) (b3 : Bool) (r7 : List UInt8) (b7 : Bool) (r1 : List UInt8) (b1 : Bool) (r2 : List UInt8) (b2 : Bool) (s1 : List UInt8) (c1 : Bool) (s2 : List UInt8) (c2 : Bool) (s3 : List UInt8) (c3 : Bool) (s4 : List UInt8) (c4 : Bool) : Prop where
  na : numT l false = (d.k, r1, b1)
  nb : numT r1 b1 = (d.c, r2, b2)
  nc : numT r2 b2 = (d.s, r3, b3)
  ma : numT r7 b7 = (d.i, s1, c1)
  mb : numT s1 c1 = (d.n, s2, c2)
  mc : numT s2 c2 = (d.p, s3, c3)
  md : numT s3 c3 = (d.b, s4, c4)
  me : numT s4 c4 = (d.d, d.rest, d.bad)
  la : r1.length ≤ l.length
  lb : r2.length ≤ l.length
  va : s1.length ≤ r7.length
  vb : s2.length ≤ r7.length
  vc : s3.length ≤ r7.length
  vd : s4.length ≤ r7.length
theorem etaN (t : Nat × List UInt8 × Bool) : t = (t.1, t.2.1, t.2.2) := rfl
theorem rd_step (l : List UInt8) (b : Bool) (k j : Nat) (hj : j = k + 1) : numT (rdSt l b k).1 (rdSt l b k).2 = (rdVal l b k, (rdSt l b j).1, (rdSt l b j).2) := by subst hj; exact etaN _
theorem dec_nums {l : List UInt8} {d : Dq} {r3 : List UInt8} {b3 : Bool} {r4 : List UInt8} {b4 : Bool} {r5 : List UInt8} {b5 : Bool} {r6 : List UInt8} {b6 : Bool} {r7 : List UInt8} {b7 : Bool} (h : DIs l d r3 b3 r4 b4 r5 b5 r6 b6 r7 b7) :
    ∃ r1 b1 r2 b2 s1 c1 s2 c2 s3 c3 s4 c4, DIn l d r3 b3 r7 b7 r1 b1 r2 b2 s1 c1 s2 c2 s3 c3 s4 c4 := by
  refine ⟨(rdSt l false 1).1, (rdSt l false 1).2, (rdSt l false 2).1, (rdSt l false 2).2, (rdSt r7 b7 1).1, (rdSt r7 b7 1).2, (rdSt r7 b7 2).1, (rdSt r7 b7 2).2, (rdSt r7 b7 3).1, (rdSt r7 b7 3).2, (rdSt r7 b7 4).1, (rdSt r7 b7 4).2, ⟨?_, ?_, ?_, ?_, ?_, ?_, ?_, ?_, rdSt_le _ _ _, rdSt_le _ _ _, rdSt_le _ _ _, rdSt_le _ _ _, rdSt_le _ _ _, rdSt_le _ _ _⟩⟩
  · rw [h.qk]; exact rd_step l false 0 1 rfl
  · rw [h.qc]; exact rd_step l false 1 2 rfl
  · rw [h.qs, h.q3, h.p3]; exact rd_step l false 2 3 rfl
  · rw [h.qi]; exact rd_step r7 b7 0 1 rfl
  · rw [h.qn]; exact rd_step r7 b7 1 2 rfl
  · rw [h.qp]; exact rd_step r7 b7 2 3 rfl
  · rw [h.qb]; exact rd_step r7 b7 3 4 rfl
  · rw [h.qd, h.qr, h.qx]; exact rd_step r7 b7 4 5 rfl
set_option maxRecDepth 40000 in
set_option maxHeartbeats 4000000 in
theorem rdec_any (ao : Option Addr) (cap : Nat) (l : List UInt8) (w : World) (hlc : l.length ≤ cap) (hcm : cap ≤ 9223372036854775807) (h0 : ao = none → l.length = 0 ∧ cap = 0) (ha : BAt w ao l) (hm : l.length ≤ 2000) :
    Calls Try.prog 14 #[.slice ao l.length cap] w (DecPost w l) := by
  obtain ⟨d, r3, b3, r4, b4, r5, b5, r6, b6, r7, b7, hd, HI⟩ := dec_parts l
  obtain ⟨r1, b1, r2, b2, s1, c1, s2, c2, s3, c3, s4, c4, HN⟩ := dec_nums HI
  have HI := Lib.hid HI
  have HN := Lib.hid HN
  have Hd := Lib.hid hd
  have Hnew := Lib.hid (((St.start w).objN (.cells #[.int .i64 0, .int .i64 0, .int .i64 0, .string ⟨#[]⟩, .string ⟨#[]⟩, .string ⟨#[]⟩, .string ⟨#[]⟩, .int .i64 0, .int .i64 0, .int .i64 0, .bool false, .int .i64 0] 25) w.heap.size rfl).newRO (w.heap.size + 1) (by simp) ao cap l hlc hcm h0 ha)
  have Hm := Lib.hid hm
  clear hlc hcm h0 ha hd
  go_enter Try.func14, Try.ntmps14
  go_wp2_with fail
  obtain ⟨g, hS⟩ := Hnew.out
  have S0 := Lib.hid hS
  clear hS Hnew
  (have hcall := St.readNumO S0.out (by have h1 := HN.out.la; have h2 := HN.out.lb; have h3 := HN.out.va; have h4 := HN.out.vb; have h5 := HN.out.vc; have h6 := HN.out.vd; have h7 := HI.out.le; omega); (rw [HN.out.na] at hcall); (refine hcall.mono ?_); clear hcall S0; (rintro e w1 ⟨rfl, hS⟩); (have S1 := Lib.hid hS); clear hS; (go_wp2_with fail))
  (have hcall := St.readNumO S1.out (by have h1 := HN.out.la; have h2 := HN.out.lb; have h3 := HN.out.va; have h4 := HN.out.vb; have h5 := HN.out.vc; have h6 := HN.out.vd; have h7 := HI.out.le; omega); (rw [HN.out.nb] at hcall); (refine hcall.mono ?_); clear hcall S1; (rintro e w2 ⟨rfl, hS⟩); (have S2 := Lib.hid hS); clear hS; (go_wp2_with fail))
  (have hcall := St.readNumO S2.out (by have h1 := HN.out.la; have h2 := HN.out.lb; have h3 := HN.out.va; have h4 := HN.out.vb; have h5 := HN.out.vc; have h6 := HN.out.vd; have h7 := HI.out.le; omega); (rw [HN.out.nc] at hcall); (refine hcall.mono ?_); clear hcall S2; (rintro e w3 ⟨rfl, hS⟩); (have S3 := Lib.hid hS); clear hS; (go_wp2_with fail))
  have S4 : Hid (St w _ [thRO w (w.heap.size + 1) g r3 b3, thObj w3.heap.size (.cells #[.int .i64 (d.k : Nat), .int .i64 (d.c : Nat), .int .i64 (d.s : Nat), .string ⟨#[]⟩, .string ⟨#[]⟩, .string ⟨#[]⟩, .string ⟨#[]⟩, .int .i64 0, .int .i64 0, .int .i64 0, .bool false, .int .i64 0] 25 (0, 0)), thObj w.heap.size (.cells #[.int .i64 0, .int .i64 0, .int .i64 0, .string ⟨#[]⟩, .string ⟨#[]⟩, .string ⟨#[]⟩, .string ⟨#[]⟩, .int .i64 0, .int .i64 0, .int .i64 0, .bool false, .int .i64 0] 25 (0, 0))]) := (S3.out.objN (.cells #[.int .i64 (d.k : Nat), .int .i64 (d.c : Nat), .int .i64 (d.s : Nat), .string ⟨#[]⟩, .string ⟨#[]⟩, .string ⟨#[]⟩, .string ⟨#[]⟩, .int .i64 0, .int .i64 0, .int .i64 0, .bool false, .int .i64 0] 25) w3.heap.size rfl).pull (A := [_])
  clear S3
  refine (get_any S4.out (by have := HI.out.la; omega) _ _ _ HI.out.ta _ _ _ HI.out.tb).mono ?_
  rintro e w4 ⟨rfl, hS⟩
  have S5 := Lib.hid hS
  obtain ⟨hl1, hc1, hf1⟩ := S5.out.cellsN 1 rfl
  clear hS S4
  go_wp2_with fail
  have S6 := Lib.hid ((((S5.out.pull (A := [_])).setObj 3 (.string ⟨d.key.toArray⟩)).setObj 4 (.string ⟨d.who.toArray⟩)).pull (A := [_]))
  clear S5 hl1 hc1 hf1
  refine (get_any S6.out (by have := HI.out.lc; omega) _ _ _ HI.out.tc _ _ _ HI.out.td).mono ?_
  rintro e w5 ⟨rfl, hS⟩
  have S7 := Lib.hid hS
  obtain ⟨hl1, hc1, hf1⟩ := S7.out.cellsN 1 rfl
  clear hS S6
  go_wp2_with fail
  have S8 := Lib.hid ((((S7.out.pull (A := [_])).setObj 5 (.string ⟨d.tkey.toArray⟩)).setObj 6 (.string ⟨d.twho.toArray⟩)).pull (A := [_]))
  clear S7 hl1 hc1 hf1
  (have hcall := St.readNumO S8.out (by have h1 := HN.out.la; have h2 := HN.out.lb; have h3 := HN.out.va; have h4 := HN.out.vb; have h5 := HN.out.vc; have h6 := HN.out.vd; have h7 := HI.out.le; omega); (rw [HN.out.ma] at hcall); (refine hcall.mono ?_); clear hcall S8; (rintro e w6 ⟨rfl, hS⟩); (have S9 := Lib.hid hS); clear hS; (go_wp2_with fail))
  (have hcall := St.readNumO S9.out (by have h1 := HN.out.la; have h2 := HN.out.lb; have h3 := HN.out.va; have h4 := HN.out.vb; have h5 := HN.out.vc; have h6 := HN.out.vd; have h7 := HI.out.le; omega); (rw [HN.out.mb] at hcall); (refine hcall.mono ?_); clear hcall S9; (rintro e w7 ⟨rfl, hS⟩); (have S10 := Lib.hid hS); clear hS; (go_wp2_with fail))
  have hcall := St.readNumO S10.out (by have h5 := HN.out.vb; have h7 := HI.out.le; omega)
  rw [HN.out.mc] at hcall
  refine hcall.mono ?_
  clear hcall S10
  rintro e w8 ⟨rfl, hS⟩
  have S11 := Lib.hid hS
  obtain ⟨hl1, hc1, hf1⟩ := S11.out.cellsN 1 rfl
  clear hS
  go_wp2_with fail
  have S12 := Lib.hid (((((S11.out.pull (A := [_])).setObj 7 (.int .i64 (d.i : Nat))).setObj 8 (.int .i64 (d.n : Nat))).setObj 9 (.int .i64 (d.p : Nat))).pull (A := [_]))
  clear S11 hl1 hc1 hf1
  have hcall := St.readNumO S12.out (by have h5 := HN.out.vc; have h7 := HI.out.le; omega)
  rw [HN.out.md] at hcall
  refine hcall.mono ?_
  clear hcall S12
  rintro e w9 ⟨rfl, hS⟩
  have S13 : Hid (St w w9 [thRO w (w.heap.size + 1) g s4 c4, thObj w3.heap.size (.cells #[.int .i64 (d.k : Nat), .int .i64 (d.c : Nat), .int .i64 (d.s : Nat), .string ⟨d.key.toArray⟩, .string ⟨d.who.toArray⟩, .string ⟨d.tkey.toArray⟩, .string ⟨d.twho.toArray⟩, .int .i64 (d.i : Nat), .int .i64 (d.n : Nat), .int .i64 (d.p : Nat), .bool false, .int .i64 0] 25 (0, 0)), thObj w.heap.size (.cells #[.int .i64 0, .int .i64 0, .int .i64 0, .string ⟨#[]⟩, .string ⟨#[]⟩, .string ⟨#[]⟩, .string ⟨#[]⟩, .int .i64 0, .int .i64 0, .int .i64 0, .bool false, .int .i64 0] 25 (0, 0))]) := hS
  obtain ⟨hl1, hc1, hf1⟩ := S13.out.cellsN 1 rfl
  clear hS
  obtain ⟨bb, hbb⟩ : ∃ bb : Bool, bb = (d.b == 1) := ⟨_, rfl⟩
  have hbi : ((d.b : Int) == 1) = bb := by rw [hbb]; exact Bool.eq_iff_iff.2 (by simp only [beq_iff_eq]; omega)
  have Hbb := Lib.hid hbb
  clear hbb
  go_wp2_with fail
  have S14 : Hid (St w _ [thRO w (w.heap.size + 1) g s4 c4, thObj w3.heap.size (.cells #[.int .i64 (d.k : Nat), .int .i64 (d.c : Nat), .int .i64 (d.s : Nat), .string ⟨d.key.toArray⟩, .string ⟨d.who.toArray⟩, .string ⟨d.tkey.toArray⟩, .string ⟨d.twho.toArray⟩, .int .i64 (d.i : Nat), .int .i64 (d.n : Nat), .int .i64 (d.p : Nat), .bool bb, .int .i64 0] 25 (0, 0)), thObj w.heap.size (.cells #[.int .i64 0, .int .i64 0, .int .i64 0, .string ⟨#[]⟩, .string ⟨#[]⟩, .string ⟨#[]⟩, .string ⟨#[]⟩, .int .i64 0, .int .i64 0, .int .i64 0, .bool false, .int .i64 0] 25 (0, 0))]) := ((S13.out.pull (A := [_])).setObj 10 (.bool bb)).pull (A := [_])
  clear S13 hl1 hc1 hf1 hbi
  have hcall := St.readNumO S14.out (by have h5 := HN.out.vd; have h7 := HI.out.le; omega)
  rw [HN.out.me] at hcall
  refine hcall.mono ?_
  clear hcall S14
  rintro e w10 ⟨rfl, hS⟩
  have S15 := Lib.hid hS
  obtain ⟨hl1, hc1, hf1⟩ := S15.out.cellsN 1 rfl
  clear hS
  go_wp2_with fail
  obtain ⟨w11, hw11⟩ : ∃ w11, w11 = w10.setCell ⟨w3.heap.size, 11, none⟩ (.int .i64 (d.d : Nat)) := ⟨_, rfl⟩
  have S16 : Hid (St w w11 [thRO w (w.heap.size + 1) g d.rest d.bad, thObj w3.heap.size (.cells #[.int .i64 (d.k : Nat), .int .i64 (d.c : Nat), .int .i64 (d.s : Nat), .string ⟨d.key.toArray⟩, .string ⟨d.who.toArray⟩, .string ⟨d.tkey.toArray⟩, .string ⟨d.twho.toArray⟩, .int .i64 (d.i : Nat), .int .i64 (d.n : Nat), .int .i64 (d.p : Nat), .bool bb, .int .i64 (d.d : Nat)] 25 (0, 0)), thObj w.heap.size (.cells #[.int .i64 0, .int .i64 0, .int .i64 0, .string ⟨#[]⟩, .string ⟨#[]⟩, .string ⟨#[]⟩, .string ⟨#[]⟩, .int .i64 0, .int .i64 0, .int .i64 0, .bool false, .int .i64 0] 25 (0, 0))]) := by
    rw [hw11]; exact ((S15.out.pull (A := [_])).setObj 11 (.int .i64 (d.d : Nat))).pull (A := [_])
  rw [← hw11]
  clear S15 hl1 hc1 hf1 hw11
  have HQ : Hid (dqQ d = ⟨d.k, d.c, d.s, ⟨d.key.toArray⟩, ⟨d.who.toArray⟩, ⟨d.tkey.toArray⟩, ⟨d.twho.toArray⟩, d.i, d.n, d.p, bb, d.d⟩) := by rw [Hbb.out]; rfl
  have HG : Hid (goodD l = (wholeD d && decide (d.b ≤ 1) && mayO (dqQ d))) := by rw [Hd.out]; rfl
  have hwh := St.wholeO S16.out
  obtain ⟨hl0, hc0, hf0⟩ := S16.out.cellsN 2 rfl
  obtain ⟨hl1, hc1, hf1⟩ := S16.out.cellsN 1 rfl
  have hb11 := S16.out.b
  cases hz : (!d.bad && d.rest.isEmpty) with
  | false =>
    have HGf : Hid (goodD l = false) := by rw [HG.out]; unfold wholeD; rw [hz]; simp [Hid]
    rw [hz] at hwh
    have Hwh := Lib.hid hwh
    clear hz hwh HG
    refine Hwh.out.mono ?_
    rintro e w12 ⟨rfl, rfl⟩
    (go_wp2_with fail); exact bodyPost_ret (v := .tuple #[.agg #[.int .i64 0, .int .i64 0, .int .i64 0, .string ⟨#[]⟩, .string ⟨#[]⟩, .string ⟨#[]⟩, .string ⟨#[]⟩, .int .i64 0, .int .i64 0, .int .i64 0, .bool false, .int .i64 0], .int .i64 3]) (by simp only [results, Try.results14]; go_simp) rfl ⟨(by repeat (first | with_reducible exact Below.refl _ _ | with_reducible assumption | with_reducible refine Below.drew ?_ | with_reducible refine below_drawn ?_ | with_reducible refine Below.alloc ?_ (by first | omega | (simp; done) | (simp; omega) | (simp at *; omega)) _ | with_reducible refine Below.setCell ?_ (by first | omega | (simp; done) | (simp; omega) | (simp at *; omega)) _ | with_reducible refine Below.trans ?_ (Below.mono (by assumption) (by first | omega | (simp; done) | (simp; omega) | (simp at *; omega))))), by rw [if_neg (by rw [HGf.out]; simp)]⟩
  | true =>
    have HGz : Hid (goodD l = (decide (d.b ≤ 1) && mayO (dqQ d))) := by rw [HG.out]; unfold wholeD; rw [hz, Bool.true_and]; rfl
    rw [hz] at hwh
    have Hwh := Lib.hid hwh
    clear hz hwh HG
    by_cases hb1 : d.b ≤ 1
    · have HGy : Hid (goodD l = mayO (dqQ d)) := by rw [HGz.out, decide_eq_true hb1, Bool.true_and]; rfl
      have hdb : decide ((1 : Int) < d.b) = false := by rw [decide_eq_false_iff_not]; omega
      have hmy := fun w => rmay_any (dqQ d) w _ rfl
      rw [HQ.out] at hmy
      simp only at hmy
      obtain ⟨my, hmy2⟩ : ∃ my, my = mayO (dqQ d) := ⟨_, rfl⟩
      have hmy3 := hmy2
      rw [HQ.out] at hmy3
      rw [← hmy3] at hmy
      rw [← hmy2] at HGy
      have Hmy := Lib.hid hmy
      clear hmy hmy2 hmy3 HGz hb1
      refine Hwh.out.mono ?_
      rintro e w12 ⟨rfl, rfl⟩
      go_wp2_with fail
      refine (Hmy.out _).mono ?_
      rintro e w13 ⟨rfl, hb⟩
      have S17 := Lib.hid (S16.out.grow hb)
      clear hb hl0 hc0 hf0 hl1 hc1 hf1 hb11 S16
      obtain ⟨hl0, hc0, hf0⟩ := S17.out.cellsN 2 rfl
      obtain ⟨hl1, hc1, hf1⟩ := S17.out.cellsN 1 rfl
      have hb13 := S17.out.b
      cases my with
      | false =>
        have HGf : Hid (goodD l = false) := HGy
        (go_wp2_with fail); exact bodyPost_ret (v := .tuple #[.agg #[.int .i64 0, .int .i64 0, .int .i64 0, .string ⟨#[]⟩, .string ⟨#[]⟩, .string ⟨#[]⟩, .string ⟨#[]⟩, .int .i64 0, .int .i64 0, .int .i64 0, .bool false, .int .i64 0], .int .i64 3]) (by simp only [results, Try.results14]; go_simp) rfl ⟨(by repeat (first | with_reducible exact Below.refl _ _ | with_reducible assumption | with_reducible refine Below.drew ?_ | with_reducible refine below_drawn ?_ | with_reducible refine Below.alloc ?_ (by first | omega | (simp; done) | (simp; omega) | (simp at *; omega)) _ | with_reducible refine Below.setCell ?_ (by first | omega | (simp; done) | (simp; omega) | (simp at *; omega)) _ | with_reducible refine Below.trans ?_ (Below.mono (by assumption) (by first | omega | (simp; done) | (simp; omega) | (simp at *; omega))))), by rw [if_neg (by rw [HGf.out]; simp)]⟩
      | true =>
        go_wp2_with fail
        refine bodyPost_ret (v := .tuple #[.agg #[.int .i64 (d.k : Nat), .int .i64 (d.c : Nat), .int .i64 (d.s : Nat), .string ⟨d.key.toArray⟩, .string ⟨d.who.toArray⟩, .string ⟨d.tkey.toArray⟩, .string ⟨d.twho.toArray⟩, .int .i64 (d.i : Nat), .int .i64 (d.n : Nat), .int .i64 (d.p : Nat), .bool bb, .int .i64 (d.d : Nat)], .int .i64 0]) (by simp only [results, Try.results14]; go_simp) rfl ⟨(by repeat (first | with_reducible exact Below.refl _ _ | with_reducible assumption | with_reducible refine Below.drew ?_ | with_reducible refine below_drawn ?_ | with_reducible refine Below.alloc ?_ (by first | omega | (simp; done) | (simp; omega) | (simp at *; omega)) _ | with_reducible refine Below.setCell ?_ (by first | omega | (simp; done) | (simp; omega) | (simp at *; omega)) _ | with_reducible refine Below.trans ?_ (Below.mono (by assumption) (by first | omega | (simp; done) | (simp; omega) | (simp at *; omega))))), ?_⟩
        rw [if_pos HGy.out, ← Hd.out, HQ.out]
    · have HGf : Hid (goodD l = false) := by rw [HGz.out, decide_eq_false hb1]; rfl
      have hdb : decide ((1 : Int) < d.b) = true := by rw [decide_eq_true_eq]; omega
      clear HGz hb1
      refine Hwh.out.mono ?_
      rintro e w12 ⟨rfl, rfl⟩
      (go_wp2_with fail); exact bodyPost_ret (v := .tuple #[.agg #[.int .i64 0, .int .i64 0, .int .i64 0, .string ⟨#[]⟩, .string ⟨#[]⟩, .string ⟨#[]⟩, .string ⟨#[]⟩, .int .i64 0, .int .i64 0, .int .i64 0, .bool false, .int .i64 0], .int .i64 3]) (by simp only [results, Try.results14]; go_simp) rfl ⟨(by repeat (first | with_reducible exact Below.refl _ _ | with_reducible assumption | with_reducible refine Below.drew ?_ | with_reducible refine below_drawn ?_ | with_reducible refine Below.alloc ?_ (by first | omega | (simp; done) | (simp; omega) | (simp at *; omega)) _ | with_reducible refine Below.setCell ?_ (by first | omega | (simp; done) | (simp; omega) | (simp at *; omega)) _ | with_reducible refine Below.trans ?_ (Below.mono (by assumption) (by first | omega | (simp; done) | (simp; omega) | (simp at *; omega))))), by rw [if_neg (by rw [HGf.out]; simp)]⟩
end Go.Proofs.Ytglidhbkglfkeaa
