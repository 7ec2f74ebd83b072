/- Purses as bytes: the contracts of Encode and Decode, of the code and of the document. -/
import Derived.Test.YtbkagefapmnojaaIt8
namespace Go.Proofs.Ytbkagefapmnojaa
open Go.RowKit

set_option maxRecDepth 20000 in
set_option maxHeartbeats 2000000 in
theorem encit_any (i : It) (w : World) : Calls Try.prog 23 #[.agg #[.int .i64 i.a, .int .i64 i.b, .int .i64 i.c, .int .i64 i.d]] w (FreshB w (encItB i)) := by
  have Hlen := Lib.hid (encItB_len i)
  go_enter Try.func23, Try.ntmps23
  go_wp2_with fail
  have S0 : Hid (St w _ [thObj w.heap.size (.cells #[.int .i64 i.a, .int .i64 i.b, .int .i64 i.c, .int .i64 i.d] 23 (0, 0))]) := (St.start w).objN (.cells #[.int .i64 i.a, .int .i64 i.b, .int .i64 i.c, .int .i64 i.d] 23) w.heap.size rfl
  have S1 : Hid (St w _ [thWr (w.heap.size + 1) w.heap.size [] none, thObj w.heap.size (.cells #[.int .i64 i.a, .int .i64 i.b, .int .i64 i.c, .int .i64 i.d] 23 (0, 0))]) := S0.out.newWr (w.heap.size + 1) (by simp) w.heap.size
  clear S0
  refine (S1.out.numsIn [i.a, i.b, i.c, i.d] 0 4 4 rfl ?_ (by have := Hlen.out; simp only [List.length_cons, List.length_nil]; omega)).mono ?_
  · intro k hk
    have : k = 0 ∨ k = 1 ∨ k = 2 ∨ k = 3 := by simp at hk; omega
    rcases this with rfl | rfl | rfl | rfl <;> rfl
  rintro e w3 ⟨rfl, o3, hS⟩
  have S4 : Hid (St w w3 [thWr (w.heap.size + 1) w.heap.size (encItB i) o3, thObj w.heap.size (.cells #[.int .i64 i.a, .int .i64 i.b, .int .i64 i.c, .int .i64 i.d] 23 (0, 0))]) := hS
  clear S1 hS
  go_wp2_with fail
  refine (out_any (w.heap.size + 1) w.heap.size (encItB i) o3 w3 S4.out.head (by have := Hlen.out; omega)).mono ?_
  rintro e w4 ⟨ao, cap, rfl, ho, hb⟩
  go_wp2_with fail
  go_ret
  exact ⟨ao, cap, rfl, own_weak ho S4.out.b.size, (S4.out.grow hb).b⟩
theorem equal_any (ao bo : Option Addr) (ca cb : Nat) (a b : List UInt8) (w : World) (ha : BAt w ao a) (hb : BAt w bo b) :
    Calls Try.prog 29 #[.slice ao a.length ca, .slice bo b.length cb] w fun e w' => e = .returned (.bool (a == b)) ∧ w = w' := by
  have h1 := conv_str ha ca
  have h2 := conv_str hb cb
  clear ha hb
  go_enter Try.func29, Try.ntmps29
  go_wp2_with fail
  go_ret
  exact ⟨rfl, rfl⟩
theorem lbytes_any (ao bo : Option Addr) (ca cb : Nat) (a : List UInt8) (w : World) (ha : BAt w ao a) (hb : BAt w bo a) :
    Calls Try.prog 24 #[.slice ao a.length ca, .slice bo a.length cb] w fun e w' => e = .returned (.bool true) ∧ w = w' := by
  have h1 := conv_str ha ca
  have h2 := conv_str hb cb
  have h3 : ((⟨a.toArray⟩ : ByteArray).toList == (⟨a.toArray⟩ : ByteArray).toList) = true := by simp
  clear ha hb
  go_enter Try.func24, Try.ntmps24
  go_wp2_with fail
  go_ret
  exact ⟨rfl, rfl⟩
def ItDec (w : World) (l : List UInt8) (e : Ending) (w' : World) : Prop := e = .returned (.tuple #[.agg #[.int .i64 (itR l).a, .int .i64 (itR l).b, .int .i64 (itR l).c, .int .i64 (itR l).d], .int .i64 (itE l)]) ∧ Below w.heap.size w w'
set_option maxRecDepth 40000 in
set_option maxHeartbeats 4000000 in
theorem decit_any (ao : Option Addr) (cap : Nat) (l : List UInt8) (w : World) (h0 : ao = none → l.length = 0 ∧ cap = 0) (ha : BAt w ao l) (hm : l.length ≤ 2000) :
    Calls Try.prog 21 #[.slice ao l.length cap] w (ItDec w l) := by
  have Ha := Lib.hid ha
  have H0 := Lib.hid h0
  obtain ⟨n0, n1, n2, n3, r1, b1, r2, b2, r3, b3, rr, rb, HI⟩ := it_parts l
  have HI := Lib.hid HI
  clear ha h0
  go_enter Try.func21, Try.ntmps21
  go_wp2_with fail
  have S0 : Hid (St w _ [thObj (w.heap.size + 1) (.cells #[.int .i64 0, .int .i64 0, .int .i64 0, .int .i64 0] 23 (0, 0)), thObj w.heap.size (.cells #[.int .i64 0, .int .i64 0, .int .i64 0, .int .i64 0] 23 (0, 0))]) := ((St.start w).objN (.cells #[.int .i64 0, .int .i64 0, .int .i64 0, .int .i64 0] 23) w.heap.size rfl).objN (.cells #[.int .i64 0, .int .i64 0, .int .i64 0, .int .i64 0] 23) (w.heap.size + 1) (by simp)
  refine (newReader_any ao cap l _ H0.out (Ha.out.below S0.out.b) (by omega)).mono ?_
  rintro e w1 ⟨p, g, rfl, hr, hb, hp, hg⟩
  have S1 := Lib.hid (S0.out.newRd hr hb hp hg)
  clear S0 hr hb hp hg
  go_wp2_with fail
  refine (St.readNums (O := [(w.heap.size + 1, #[.int .i64 0, .int .i64 0, .int .i64 0, .int .i64 0], 23), (w.heap.size, #[.int .i64 0, .int .i64 0, .int .i64 0, .int .i64 0], 23)]) (L := []) S1.out (by omega) [(0, 0), (0, 1), (0, 2), (0, 3)] ?_ w1.heap.size 4 rfl rfl (by simp) _ _ rfl).mono ?_
  · intro q hq
    simp only [List.mem_cons, List.not_mem_nil, or_false] at hq
    rcases hq with rfl | rfl | rfl | rfl <;> exact ⟨_, _, rfl, rfl⟩
  rintro e w3 ⟨rfl, hS⟩
  have S3 : Hid (St w w3 [thRd p g rr rb, thObj (w.heap.size + 1) (.cells #[.int .i64 (n0 : Nat), .int .i64 (n1 : Nat), .int .i64 (n2 : Nat), .int .i64 (n3 : Nat)] 23 (0, 0)), thObj w.heap.size (.cells #[.int .i64 0, .int .i64 0, .int .i64 0, .int .i64 0] 23 (0, 0))]) := by
    rw [← HI.out.v0, ← HI.out.v1, ← HI.out.v2, ← HI.out.v3, ← HI.out.sr, ← HI.out.sb]
    exact hS
  clear hS S1
  have hwh := whole_any p g rr rb w3 S3.out.head (by have := HI.out.len; omega)
  obtain ⟨hl0, hc0, hf0⟩ := S3.out.cellsN 2 rfl
  obtain ⟨hl1, hc1, hf1⟩ := S3.out.cellsN 1 rfl
  have hb3 := S3.out.b
  cases hz : (!rb && rr.isEmpty) with
  | false =>
    have HGf : Hid (goodI l = false) := by rw [HI.out.good, hz]; rfl
    rw [hz] at hwh
    have Hwh := Lib.hid hwh
    clear hz hwh
    go_wp2_with fail
    refine Hwh.out.mono ?_
    rintro e w4 ⟨rfl, rfl⟩
    (go_wp2_with fail); exact bodyPost_ret (v := .tuple #[.agg #[.int .i64 0, .int .i64 0, .int .i64 0, .int .i64 0], .int .i64 3]) (by simp only [results, Try.results21]; go_simp) rfl ⟨by rw [(itR_no HGf.out).1, (itR_no HGf.out).2]; rfl, (by repeat (first | with_reducible exact Below.refl _ _ | with_reducible assumption | with_reducible refine Below.drew ?_ | with_reducible refine below_drawn ?_ | with_reducible refine Below.alloc ?_ (by first | omega | (simp; done) | (simp; omega) | (simp at *; omega)) _ | with_reducible refine Below.setCell ?_ (by first | omega | (simp; done) | (simp; omega) | (simp at *; omega)) _ | with_reducible refine Below.trans ?_ (Below.mono (by assumption) (by first | omega | (simp; done) | (simp; omega) | (simp at *; omega)))))⟩
  | true =>
    have HGz : Hid (goodI l = isI ⟨n0, n1, n2, n3⟩) := by rw [HI.out.good, hz, Bool.true_and]; rfl
    have HB := Lib.hid (HI.out.back hz)
    rw [hz] at hwh
    have Hwh := Lib.hid hwh
    clear hz hwh
    obtain ⟨z, hz⟩ : ∃ z, isI ⟨n0, n1, n2, n3⟩ = z := ⟨_, rfl⟩
    have hmy := fun w => purse_is ⟨n0, n1, n2, n3⟩ w
    rw [hz] at hmy HGz
    have Hmy := Lib.hid hmy
    clear hmy hz
    go_wp2_with fail
    refine Hwh.out.mono ?_
    rintro e w4 ⟨rfl, rfl⟩
    go_wp2_with fail
    refine (Hmy.out _).mono ?_
    rintro e w5 ⟨rfl, hb⟩
    have S4 := Lib.hid (S3.out.grow hb)
    clear hb hl0 hc0 hf0 hl1 hc1 hf1 hb3 S3
    obtain ⟨hl0, hc0, hf0⟩ := S4.out.cellsN 2 rfl
    obtain ⟨hl1, hc1, hf1⟩ := S4.out.cellsN 1 rfl
    have hb5 := S4.out.b
    cases z with
    | false =>
      have HGf : Hid (goodI l = false) := HGz
      (go_wp2_with fail); exact bodyPost_ret (v := .tuple #[.agg #[.int .i64 0, .int .i64 0, .int .i64 0, .int .i64 0], .int .i64 3]) (by simp only [results, Try.results21]; go_simp) rfl ⟨by rw [(itR_no HGf.out).1, (itR_no HGf.out).2]; rfl, (by repeat (first | with_reducible exact Below.refl _ _ | with_reducible assumption | with_reducible refine Below.drew ?_ | with_reducible refine below_drawn ?_ | with_reducible refine Below.alloc ?_ (by first | omega | (simp; done) | (simp; omega) | (simp at *; omega)) _ | with_reducible refine Below.setCell ?_ (by first | omega | (simp; done) | (simp; omega) | (simp at *; omega)) _ | with_reducible refine Below.trans ?_ (Below.mono (by assumption) (by first | omega | (simp; done) | (simp; omega) | (simp at *; omega)))))⟩
    | true =>
      have HGt : Hid (goodI l = true) := HGz
      go_wp2_with fail
      have henc := encit_any ⟨n0, n1, n2, n3⟩ w5
      rw [HB.out] at henc
      refine henc.mono ?_
      clear henc
      rintro e w6 ⟨bo, bc, rfl, ho, hb⟩
      have S5 := Lib.hid (S4.out.grow hb)
      have Heql := Lib.hid (equal_any bo ao bc cap l l w6 ho.at (Ha.out.below S5.out.b))
      rw [beq_self_eq_true] at Heql
      clear hb ho hl0 hc0 hf0 hl1 hc1 hf1 hb5 S4
      obtain ⟨hl0, hc0, hf0⟩ := S5.out.cellsN 2 rfl
      obtain ⟨hl1, hc1, hf1⟩ := S5.out.cellsN 1 rfl
      have hb6 := S5.out.b
      go_wp2_with fail
      refine Heql.out.mono ?_
      rintro e w7 ⟨rfl, rfl⟩
      (go_wp2_with fail); exact bodyPost_ret (v := .tuple #[.agg #[.int .i64 (n0 : Nat), .int .i64 (n1 : Nat), .int .i64 (n2 : Nat), .int .i64 (n3 : Nat)], .int .i64 0]) (by simp only [results, Try.results21]; go_simp) rfl ⟨by rw [(itR_yes HGt.out).1, (itR_yes HGt.out).2, HI.out.v0, HI.out.v1, HI.out.v2, HI.out.v3], (by repeat (first | with_reducible exact Below.refl _ _ | with_reducible assumption | with_reducible refine Below.drew ?_ | with_reducible refine below_drawn ?_ | with_reducible refine Below.alloc ?_ (by first | omega | (simp; done) | (simp; omega) | (simp at *; omega)) _ | with_reducible refine Below.setCell ?_ (by first | omega | (simp; done) | (simp; omega) | (simp at *; omega)) _ | with_reducible refine Below.trans ?_ (Below.mono (by assumption) (by first | omega | (simp; done) | (simp; omega) | (simp at *; omega)))))⟩
set_option maxRecDepth 40000 in
set_option maxHeartbeats 4000000 in
theorem rdecit_any (ao : Option Addr) (cap : Nat) (l : List UInt8) (w : World) (hlc : l.length ≤ cap) (hcm : cap ≤ 9223372036854775807) (h0 : ao = none → l.length = 0 ∧ cap = 0) (ha : BAt w ao l) (hm : l.length ≤ 2000) :
    Calls Try.prog 22 #[.slice ao l.length cap] w (ItDec w l) := by
  obtain ⟨n0, n1, n2, n3, r1, b1, r2, b2, r3, b3, rr, rb, HI⟩ := it_parts l
  have HI := Lib.hid HI
  have Hnew := Lib.hid (((St.start w).objN (.cells #[.int .i64 0, .int .i64 0, .int .i64 0, .int .i64 0] 23) w.heap.size rfl).newRO (w.heap.size + 1) (by simp) ao cap l hlc hcm h0 ha)
  clear hlc hcm h0 ha
  go_enter Try.func22, Try.ntmps22
  go_wp2_with fail
  obtain ⟨g, hS⟩ := Hnew.out
  have S0 := Lib.hid hS
  clear hS Hnew
  obtain ⟨z, hz⟩ : ∃ z, isI ⟨n0, n1, n2, n3⟩ = z := ⟨_, rfl⟩
  have Hz := Lib.hid hz
  refine (read8_any S0.out (by omega) n0 n1 n2 n3 r1 r2 r3 rr b1 b2 b3 rb HI.out.na HI.out.nb HI.out.nc HI.out.nd z hz).mono ?_
  clear hz
  rintro e w3 ⟨rfl, hS⟩
  have S4 := Lib.hid hS
  clear hS S0
  go_wp2_with fail
  have S5 : Hid (St w _ [thRO w (w.heap.size + 1) g (if z then rr else []) (if z then rb else true), thObj w3.heap.size (.cells #[.int .i64 (n0 : Nat), .int .i64 (n1 : Nat), .int .i64 (n2 : Nat), .int .i64 (n3 : Nat)] 23 (0, 0)), thObj w.heap.size (.cells #[.int .i64 0, .int .i64 0, .int .i64 0, .int .i64 0] 23 (0, 0))]) := (S4.out.objN (.cells #[.int .i64 (n0 : Nat), .int .i64 (n1 : Nat), .int .i64 (n2 : Nat), .int .i64 (n3 : Nat)] 23) w3.heap.size rfl).pull (A := [_])
  clear S4
  have hwh := St.wholeO S5.out
  obtain ⟨w4, hw4⟩ : ∃ w4, w4 = w3.alloc (.cells #[.int .i64 (n0 : Nat), .int .i64 (n1 : Nat), .int .i64 (n2 : Nat), .int .i64 (n3 : Nat)] 23) := ⟨_, rfl⟩
  rw [← hw4] at S5 hwh ⊢
  clear hw4
  obtain ⟨hl0, hc0, hf0⟩ := S5.out.cellsN 2 rfl
  obtain ⟨hl1, hc1, hf1⟩ := S5.out.cellsN 1 rfl
  have hb4 := S5.out.b
  cases z with
  | false =>
    have HGf : Hid (goodI l = false) := by
      rw [HI.out.good, Hz.out, Bool.and_false]; rfl
    have Hwh : Hid (Calls Try.prog 31 #[.pointer (some ⟨w.heap.size + 1, 0, none⟩)] w4 fun e w' => e = .returned (.bool false) ∧ w' = w4) := hwh
    clear hwh
    refine Hwh.out.mono ?_
    rintro e w5 ⟨rfl, rfl⟩
    (go_wp2_with fail); exact bodyPost_ret (v := .tuple #[.agg #[.int .i64 0, .int .i64 0, .int .i64 0, .int .i64 0], .int .i64 3]) (by simp only [results, Try.results22]; go_simp) rfl ⟨by rw [(itR_no HGf.out).1, (itR_no HGf.out).2]; rfl, (by repeat (first | with_reducible exact Below.refl _ _ | with_reducible assumption | with_reducible refine Below.drew ?_ | with_reducible refine below_drawn ?_ | with_reducible refine Below.alloc ?_ (by first | omega | (simp; done) | (simp; omega) | (simp at *; omega)) _ | with_reducible refine Below.setCell ?_ (by first | omega | (simp; done) | (simp; omega) | (simp at *; omega)) _ | with_reducible refine Below.trans ?_ (Below.mono (by assumption) (by first | omega | (simp; done) | (simp; omega) | (simp at *; omega)))))⟩
  | true =>
    simp only [if_true] at hwh
    cases hy : (!rb && rr.isEmpty) with
    | false =>
      have HGf : Hid (goodI l = false) := by rw [HI.out.good, hy]; rfl
      rw [hy] at hwh
      have Hwh := Lib.hid hwh
      clear hy hwh
      refine Hwh.out.mono ?_
      rintro e w5 ⟨rfl, rfl⟩
      (go_wp2_with fail); exact bodyPost_ret (v := .tuple #[.agg #[.int .i64 0, .int .i64 0, .int .i64 0, .int .i64 0], .int .i64 3]) (by simp only [results, Try.results22]; go_simp) rfl ⟨by rw [(itR_no HGf.out).1, (itR_no HGf.out).2]; rfl, (by repeat (first | with_reducible exact Below.refl _ _ | with_reducible assumption | with_reducible refine Below.drew ?_ | with_reducible refine below_drawn ?_ | with_reducible refine Below.alloc ?_ (by first | omega | (simp; done) | (simp; omega) | (simp at *; omega)) _ | with_reducible refine Below.setCell ?_ (by first | omega | (simp; done) | (simp; omega) | (simp at *; omega)) _ | with_reducible refine Below.trans ?_ (Below.mono (by assumption) (by first | omega | (simp; done) | (simp; omega) | (simp at *; omega)))))⟩
    | true =>
      have HGt : Hid (goodI l = true) := by rw [HI.out.good, hy, Hz.out]; rfl
      rw [hy] at hwh
      have Hwh := Lib.hid hwh
      clear hy hwh
      refine Hwh.out.mono ?_
      rintro e w5 ⟨rfl, rfl⟩
      (go_wp2_with fail); exact bodyPost_ret (v := .tuple #[.agg #[.int .i64 (n0 : Nat), .int .i64 (n1 : Nat), .int .i64 (n2 : Nat), .int .i64 (n3 : Nat)], .int .i64 0]) (by simp only [results, Try.results22]; go_simp) rfl ⟨by rw [(itR_yes HGt.out).1, (itR_yes HGt.out).2, HI.out.v0, HI.out.v1, HI.out.v2, HI.out.v3], (by repeat (first | with_reducible exact Below.refl _ _ | with_reducible assumption | with_reducible refine Below.drew ?_ | with_reducible refine below_drawn ?_ | with_reducible refine Below.alloc ?_ (by first | omega | (simp; done) | (simp; omega) | (simp at *; omega)) _ | with_reducible refine Below.setCell ?_ (by first | omega | (simp; done) | (simp; omega) | (simp at *; omega)) _ | with_reducible refine Below.trans ?_ (Below.mono (by assumption) (by first | omega | (simp; done) | (simp; omega) | (simp at *; omega)))))⟩
end Go.Proofs.Ytbkagefapmnojaa
