/- Texts put together: BackOp, RepP, OCh, OLp, FrPlain, WAj. -/
import Derived.Test.YthlcmjgdilebeaaChecked
import Derived.Test.YthlcmjgdilebeaaPa01
import Derived.Test.YthlcmjgdilebeaaPa02
import Derived.Test.YthlcmjgdilebeaaPa03
import Derived.Test.YthlcmjgdilebeaaPa04
import Derived.Test.YthlcmjgdilebeaaPa05
import Derived.Test.YthlcmjgdilebeaaPa06
import Derived.Test.YthlcmjgdilebeaaPa07
import Derived.Test.YthlcmjgdilebeaaPa08
import Derived.Test.YthlcmjgdilebeaaPa09
import Derived.Test.YthlcmjgdilebeaaPa10
import Derived.Test.YthlcmjgdilebeaaPa11
import Derived.Test.YthlcmjgdilebeaaPa12
import Derived.Test.YthlcmjgdilebeaaPa13
import Derived.Test.YthlcmjgdilebeaaPa14
import Derived.Test.YthlcmjgdilebeaaPa15
import Derived.Test.YthlcmjgdilebeaaPa16
import Derived.Test.YthlcmjgdilebeaaPa17
import Derived.Test.YthlcmjgdilebeaaPa18
import Derived.Test.YthlcmjgdilebeaaPa19
import Derived.Test.YthlcmjgdilebeaaPa20
import Derived.Test.YthlcmjgdilebeaaPa21
import Derived.Test.YthlcmjgdilebeaaPa22
import Derived.Test.YthlcmjgdilebeaaPa23
import Derived.Test.YthlcmjgdilebeaaPa24
import Derived.Test.YthlcmjgdilebeaaPa25
import Derived.Test.YthlcmjgdilebeaaPa26
import Derived.Test.YthlcmjgdilebeaaPa27
import Derived.Test.YthlcmjgdilebeaaPa28
import Derived.Test.YthlcmjgdilebeaaPa29
import Derived.Test.YthlcmjgdilebeaaPa30
import Derived.Test.YthlcmjgdilebeaaPa31
import Derived.Test.YthlcmjgdilebeaaPa32
import Derived.Test.YthlcmjgdilebeaaPa33
import Derived.Test.YthlcmjgdilebeaaPa34
import Derived.Test.YthlcmjgdilebeaaPa35
import Derived.Test.YthlcmjgdilebeaaPa36
import Derived.Test.YthlcmjgdilebeaaPa37
import Derived.Test.YthlcmjgdilebeaaPa38
import Derived.Test.YthlcmjgdilebeaaPa39
import Derived.Test.YthlcmjgdilebeaaPa40
import Derived.Test.YthlcmjgdilebeaaPa41
import Derived.Test.YthlcmjgdilebeaaPa42
import Derived.Test.YthlcmjgdilebeaaPa43
import Derived.Test.YthlcmjgdilebeaaPa44
import Derived.Test.YthlcmjgdilebeaaPa45
import Derived.Test.YthlcmjgdilebeaaPa46
import Derived.Test.YthlcmjgdilebeaaPa47
import Derived.Test.YthlcmjgdilebeaaPa48
import Derived.Test.YthlcmjgdilebeaaPa49
import Derived.Test.YthlcmjgdilebeaaPa50
namespace Go.Proofs.Ythlcmjgdilebeaa
open Go.RowKit

def tk1 (l : List UInt8) := tookOf (rdSt l false 3).1 (rdSt l false 3).2
def tk2 (l : List UInt8) := tookOf (tk1 l).2.1 (tk1 l).2.2
def tk3 (l : List UInt8) := tookOf (tk2 l).2.1 (tk2 l).2.2
def tk4 (l : List UInt8) := tookOf (tk3 l).2.1 (tk3 l).2.2
def decD (l : List UInt8) : Dq := ⟨rdVal l false 0, rdVal l false 1, rdVal l false 2, (tk1 l).1, (tk2 l).1, (tk3 l).1, (tk4 l).1,
  rdVal (tk4 l).2.1 (tk4 l).2.2 0, rdVal (tk4 l).2.1 (tk4 l).2.2 1, rdVal (tk4 l).2.1 (tk4 l).2.2 2, rdVal (tk4 l).2.1 (tk4 l).2.2 3, rdVal (tk4 l).2.1 (tk4 l).2.2 4, (rdSt (tk4 l).2.1 (tk4 l).2.2 5).1, (rdSt (tk4 l).2.1 (tk4 l).2.2 5).2⟩
/-- The request. -/
def dqQ (d : Dq) : Rq := ⟨d.k, d.c, d.s, ⟨d.key.toArray⟩, ⟨d.who.toArray⟩, ⟨d.tkey.toArray⟩, ⟨d.twho.toArray⟩, d.i, d.n, d.p, d.b == 1, d.d⟩
/-- Bytes of what was read. -/
def encD (d : Dq) : List UInt8 := encN d.k ++ (encN d.c ++ (encN d.s ++ (encRow d.key ++ (encRow d.who ++ (encRow d.tkey ++ (encRow d.twho ++ (encN d.i ++ (encN d.n ++ (encN d.p ++ (encN d.b ++ encN d.d))))))))))
theorem decD_enc (d : Dq) (hk : d.k ≤ 4611686018427387904) (hc : d.c ≤ 4611686018427387904) (hs : d.s ≤ 4611686018427387904) (hi : d.i ≤ 4611686018427387904) (hn : d.n ≤ 4611686018427387904) (hp : d.p ≤ 4611686018427387904) (hb : d.b ≤ 4611686018427387904) (hd : d.d ≤ 4611686018427387904)
    (h1 : d.key.length ≤ 4611686018427387904) (h2 : d.who.length ≤ 4611686018427387904) (h3 : d.tkey.length ≤ 4611686018427387904) (h4 : d.twho.length ≤ 4611686018427387904) (hr : d.rest = []) (hbad : d.bad = false) : decD (encD d) = d := by
  have t1 : tk1 (encD d) = (d.key, encRow d.who ++ (encRow d.tkey ++ (encRow d.twho ++ (encN d.i ++ (encN d.n ++ (encN d.p ++ (encN d.b ++ encN d.d)))))), false) := by
    unfold tk1 encD
    rw [rdSt_enc _ _ _ _ hk, rdSt_enc _ _ _ _ hc, rdSt_enc _ _ _ _ hs]
    exact tookOf_enc _ _ _ h1
  have t2 : tk2 (encD d) = (d.who, encRow d.tkey ++ (encRow d.twho ++ (encN d.i ++ (encN d.n ++ (encN d.p ++ (encN d.b ++ encN d.d))))), false) := by
    unfold tk2; rw [t1]; exact tookOf_enc _ _ _ h2
  have t3 : tk3 (encD d) = (d.tkey, encRow d.twho ++ (encN d.i ++ (encN d.n ++ (encN d.p ++ (encN d.b ++ encN d.d)))), false) := by
    unfold tk3; rw [t2]; exact tookOf_enc _ _ _ h3
  have t4 : tk4 (encD d) = (d.twho, encN d.i ++ (encN d.n ++ (encN d.p ++ (encN d.b ++ encN d.d))), false) := by
    unfold tk4; rw [t3]; exact tookOf_enc _ _ _ h4
  have z : encN d.d = encN d.d ++ [] := (List.append_nil _).symm
  have e : decD (encD d) = ⟨d.k, d.c, d.s, d.key, d.who, d.tkey, d.twho, d.i, d.n, d.p, d.b, d.d, [], false⟩ := by
    unfold decD
    rw [t1, t2, t3, t4]
    simp only [encD]
    rw [z]
    rw [rdVal_enc0 _ _ _ hk, rdVal_enc _ _ _ _ hk, rdVal_enc0 _ _ _ hc, rdVal_enc _ _ _ _ hk, rdVal_enc _ _ _ _ hc, rdVal_enc0 _ _ _ hs]
    rw [rdVal_enc0 _ _ _ hi, rdVal_enc _ _ _ 0 hi, rdVal_enc0 _ _ _ hn, rdVal_enc _ _ _ 1 hi, rdVal_enc _ _ _ _ hn, rdVal_enc0 _ _ _ hp, rdVal_enc _ _ _ 2 hi, rdVal_enc _ _ _ _ hn, rdVal_enc _ _ _ _ hp, rdVal_enc0 _ _ _ hb, rdVal_enc _ _ _ 3 hi, rdVal_enc _ _ _ _ hn, rdVal_enc _ _ _ _ hp, rdVal_enc _ _ _ _ hb, rdVal_enc0 _ _ _ hd]
    rw [rdSt_enc _ _ _ _ hi, rdSt_enc _ _ _ _ hn, rdSt_enc _ _ _ _ hp, rdSt_enc _ _ _ _ hb, rdSt_enc _ _ _ _ hd]
    rfl
  rw [e]
  obtain ⟨k, c, s, key, who, tkey, twho, i, n, p, b, dd, rest, bad⟩ := d
  simp only at hr hbad
  subst hr hbad
  rfl
theorem may_bounds {o : Rq} (h : mayO o = true) : (1 ≤ o.kind ∧ o.kind ≤ 7) ∧ (1 ≤ o.client ∧ o.client ≤ 1048576) ∧ (1 ≤ o.seq ∧ o.seq ≤ 1099511627776) ∧ (0 ≤ o.item ∧ o.item ≤ 3) ∧ (0 ≤ o.count ∧ o.count ≤ 1048576) ∧ (0 ≤ o.price ∧ o.price ≤ 1024) ∧ (0 ≤ o.id ∧ o.id ≤ 1099511627776) := by
  obtain ⟨hp, hk, hc⟩ := may_kind h
  rcases kind_parts hk with ⟨hkk, h⟩ | ⟨hkk, h⟩ | ⟨hkk, h⟩ | ⟨hkk, h⟩ | ⟨hkk, h⟩
  · simp only [cntO, decide_eq_true_eq] at h; omega
  · simp only [sendO, cntO, Bool.and_eq_true, decide_eq_true_eq] at h; omega
  · simp only [ordO, cntO, Bool.and_eq_true, decide_eq_true_eq] at h; omega
  · simp only [canO, decide_eq_true_eq] at h; omega
  · simp only [barO, decide_eq_true_eq] at h; omega
theorem clampN_of {v : Int} (h0 : 0 ≤ v) (h : v ≤ 4611686018427387904) : ((clampN v : Nat) : Int) = v := by unfold clampN; omega
/-- What is read of a request's bytes. -/
def qD (o : Rq) : Dq := ⟨clampN o.kind, clampN o.client, clampN o.seq, o.key.data.toList, o.who.data.toList, o.tkey.data.toList, o.twho.data.toList, clampN o.item, clampN o.count, clampN o.price, clampN (b1 o.buy), clampN o.id, [], false⟩
theorem encD_q (o : Rq) : encD (qD o) = encO o := by
  simp only [encD, qD, encO, encs, encS, List.flatMap_cons, List.flatMap_nil, List.append_nil, List.append_assoc]
theorem decD_q {o : Rq} (h : mayO o = true) : decD (encO o) = qD o := by
  rw [← encD_q]
  have hz := may_sizes h
  have e : ∀ s : ByteArray, s.data.toList.length = s.size := fun s => by rw [Array.length_toList]; rfl
  have h1 : (qD o).key.length ≤ 4611686018427387904 := by show o.key.data.toList.length ≤ _; rw [e]; omega
  have h2 : (qD o).who.length ≤ 4611686018427387904 := by show o.who.data.toList.length ≤ _; rw [e]; omega
  have h3 : (qD o).tkey.length ≤ 4611686018427387904 := by show o.tkey.data.toList.length ≤ _; rw [e]; omega
  have h4 : (qD o).twho.length ≤ 4611686018427387904 := by show o.twho.data.toList.length ≤ _; rw [e]; omega
  have c : ∀ v, clampN v ≤ 4611686018427387904 := clampN_le
  refine decD_enc (qD o) ?_ ?_ ?_ ?_ ?_ ?_ ?_ ?_ h1 h2 h3 h4 rfl rfl
  all_goals (simp only [qD]; exact c _)
theorem dqQ_q {o : Rq} (h : mayO o = true) : dqQ (qD o) = o := by
  have hb := may_bounds h
  obtain ⟨kind, client, seq, key, who, tkey, twho, item, count, price, buy, id⟩ := o
  simp only at hb
  have e : ∀ s : ByteArray, (⟨s.data.toList.toArray⟩ : ByteArray) = s := fun s => by simp
  simp only [dqQ, qD, e, Rq.mk.injEq, true_and]
  refine ⟨clampN_of (by omega) (by omega), clampN_of (by omega) (by omega), clampN_of (by omega) (by omega), clampN_of (by omega) (by omega), clampN_of (by omega) (by omega), clampN_of (by omega) (by omega), ?_, clampN_of (by omega) (by omega)⟩
  cases buy <;> rfl
theorem encO_inj {a b : Rq} (ha : mayO a = true) (hb : mayO b = true) (h : encO a = encO b) : a = b := by
  have := decD_q ha
  rw [h, decD_q hb] at this
  rw [← dqQ_q ha, ← this, dqQ_q hb]
end Go.Proofs.Ythlcmjgdilebeaa

namespace Go.Proofs.Ythlcmjgdilebeaa
open Go.RowKit

def rpOf (l : List UInt8) : Rp := ⟨rdVal l false 0, rdVal l false 1, ⟨rdVal l false 2, rdVal l false 3, rdVal l false 4, rdVal l false 5⟩⟩
def wholeP (l : List UInt8) : Bool := !(rdSt l false 6).2 && (rdSt l false 6).1.isEmpty
def goodP (l : List UInt8) : Bool := wholeP l && mayR (rpOf l)
theorem mayR_iff (r : Rp) : mayR r = true ↔ (0 ≤ r.err ∧ r.err ≤ 19 ∧ 0 ≤ r.id ∧ r.id ≤ 1099511627776) ∧ isI r.i = true := by simp [mayR]
theorem rd_six (n0 n1 n2 n3 n4 n5 : Nat) (h0 : n0 ≤ 4611686018427387904) (h1 : n1 ≤ 4611686018427387904) (h2 : n2 ≤ 4611686018427387904) (h3 : n3 ≤ 4611686018427387904) (h4 : n4 ≤ 4611686018427387904) (h5 : n5 ≤ 4611686018427387904) (l : List UInt8) (hl : l = encN n0 ++ (encN n1 ++ (encN n2 ++ (encN n3 ++ (encN n4 ++ (encN n5 ++ [])))))) :
    rdVal l false 0 = n0 ∧ rdVal l false 1 = n1 ∧ rdVal l false 2 = n2 ∧ rdVal l false 3 = n3 ∧ rdVal l false 4 = n4 ∧ rdVal l false 5 = n5 ∧ rdSt l false 6 = ([], false) := by
  subst hl
  refine ⟨?_, ?_, ?_, ?_, ?_, ?_, ?_⟩
  · rw [rdVal_enc0 _ _ _ h0]
  · rw [rdVal_enc _ _ _ 0 h0, rdVal_enc0 _ _ _ h1]
  · rw [rdVal_enc _ _ _ 1 h0, rdVal_enc _ _ _ 0 h1, rdVal_enc0 _ _ _ h2]
  · rw [rdVal_enc _ _ _ 2 h0, rdVal_enc _ _ _ 1 h1, rdVal_enc _ _ _ 0 h2, rdVal_enc0 _ _ _ h3]
  · rw [rdVal_enc _ _ _ 3 h0, rdVal_enc _ _ _ 2 h1, rdVal_enc _ _ _ 1 h2, rdVal_enc _ _ _ 0 h3, rdVal_enc0 _ _ _ h4]
  · rw [rdVal_enc _ _ _ 4 h0, rdVal_enc _ _ _ 3 h1, rdVal_enc _ _ _ 2 h2, rdVal_enc _ _ _ 1 h3, rdVal_enc _ _ _ 0 h4, rdVal_enc0 _ _ _ h5]
  · rw [rdSt_enc _ _ _ 5 h0, rdSt_enc _ _ _ 4 h1, rdSt_enc _ _ _ 3 h2, rdSt_enc _ _ _ 2 h3, rdSt_enc _ _ _ 1 h4, rdSt_enc _ _ _ 0 h5]
    rfl
theorem encP_eq (r : Rp) : encP r = encN (clampN r.err) ++ (encN (clampN r.id) ++ (encN (clampN r.i.a) ++ (encN (clampN r.i.b) ++ (encN (clampN r.i.c) ++ (encN (clampN r.i.d) ++ []))))) := by
  simp only [encP, encItB, encs, List.flatMap_cons, List.flatMap_nil, List.append_nil, List.append_assoc]
theorem rpOf_enc {r : Rp} (h : mayR r = true) : goodP (encP r) = true ∧ rpOf (encP r) = r := by
  have hm := h
  rw [mayR_iff] at hm
  obtain ⟨h1, h2⟩ := hm
  rw [isI_iff] at h2
  obtain ⟨v0, v1, v2, v3, v4, v5, st⟩ := rd_six _ _ _ _ _ _ (clampN_le _) (clampN_le _) (clampN_le _) (clampN_le _) (clampN_le _) (clampN_le _) (encP r) (encP_eq r)
  have e : rpOf (encP r) = r := by
    unfold rpOf
    rw [v0, v1, v2, v3, v4, v5]
    obtain ⟨err, id, a, b, c, d⟩ := r
    simp only at h1 h2
    simp only [Rp.mk.injEq, It.mk.injEq]
    exact ⟨clampN_of (by omega) (by omega), clampN_of (by omega) (by omega), clampN_of (by omega) (by omega), clampN_of (by omega) (by omega), clampN_of (by omega) (by omega), clampN_of (by omega) (by omega)⟩
  refine ⟨?_, e⟩
  unfold goodP wholeP
  rw [e, h, st]
  rfl
end Go.Proofs.Ythlcmjgdilebeaa

namespace Go.Proofs.Ythlcmjgdilebeaa.O
open Go.RowKit
set_option maxRecDepth 20000

def kc (l : List UInt8) : List UInt8 × List UInt8 × Bool := tookOf (rdSt l false 4).1 (rdSt l false 4).2
def decC (l : List UInt8) : Ch × Rs := (⟨rdVal l false 0, rdVal l false 1, rdVal l false 2, rdVal l false 3, txt (kc l).1⟩, (kc l).2)
def goodC (l : List UInt8) : Bool := wholeS (decC l).2 && mayC (decC l).1
theorem mayC_nums {c : Ch} (h : mayC c = true) : numB c.kind ∧ numB c.zone ∧ numB c.epoch ∧ numB c.tt := by
  unfold mayC at h
  rw [Bool.and_eq_true, decide_eq_true_eq] at h
  obtain ⟨h0, h⟩ := h
  unfold numB
  split at h
  · rw [decide_eq_true_eq] at h; omega
  · split at h
    · rw [decide_eq_true_eq] at h; omega
    · split at h
      · rw [decide_eq_true_eq] at h; omega
      · split at h
        · rw [decide_eq_true_eq] at h; omega
        · cases h
theorem decC_enc {c : Ch} (h : mayC c = true) : decC (encC c) = (c, [], false) := by
  obtain ⟨h1, h2, h3, h4⟩ := mayC_nums h
  have h5 := mayC_key h
  have e : encC c = encN (clampN c.kind) ++ (encN (clampN c.zone) ++ (encN (clampN c.epoch) ++ (encN (clampN c.tt) ++ (encRow c.key.data.toList ++ [])))) := by
    simp only [encC, encS, encs_cons, encs_nil, List.append_nil, List.append_assoc]
  rw [e]
  unfold decC kc
  simp only [rdVal_enc _ _ _ _ (clampN_le _), rdVal_enc0 _ _ _ (clampN_le _), rdSt_enc _ _ _ _ (clampN_le _)]
  rw [rz]
  dsimp only
  rw [tookOf_enc _ _ _ (by rw [Array.length_toList]; exact Nat.le_trans h5 (by decide))]
  simp only [h1.cl, h2.cl, h3.cl, h4.cl, txt_of]
end Go.Proofs.Ythlcmjgdilebeaa.O

namespace Go.Proofs.Ythlcmjgdilebeaa.O
open Go.RowKit
set_option maxRecDepth 20000

theorem goodC_enc {c : Ch} (h : mayC c = true) : goodC (encC c) = true ∧ (decC (encC c)).1 = c := by
  have e := decC_enc h
  unfold goodC
  rw [e]
  exact ⟨by rw [h]; rfl, rfl⟩
end Go.Proofs.Ythlcmjgdilebeaa.O

namespace Go.Proofs.Ythlcmjgdilebeaa.F

def unFour : List UInt8 → Nat
  | a :: b :: c :: d :: _ => a.toNat + b.toNat * 256 + c.toNat * 65536 + d.toNat * 16777216
  | _ => 0
theorem unFour_four (n : Nat) (hn : n < 4294967296) (r : List UInt8) : unFour (fourB n ++ r) = n := by
  simp only [fourB, List.cons_append, List.nil_append, unFour, UInt8.toNat_ofNat']
  omega
theorem frameB_length (p : List UInt8) : (frameB p).length = p.length + 12 := by
  simp only [frameB, List.length_append, headB_length, fourB_length]; omega
/-- What bytes begin with: what the record holds, its length, and how it is refused. -/
def decB (l : List UInt8) : List UInt8 × Nat × Nat :=
  if l.length < 8 then ([], 0, 2) else if l.take 8 ≠ headB (unFour l) then ([], 0, 4) else if 1048576 < unFour l then ([], 0, 5)
  else if l.length < 12 + unFour l then ([], 0, 2) else if unFour (l.drop (8 + unFour l)) ≠ sumOf (l.take (8 + unFour l)) then ([], 0, 4)
  else ((l.drop 8).take (unFour l), 12 + unFour l, 0)
theorem dec_frame (p more : List UInt8) (hp : p.length ≤ 1048576) : decB (frameB p ++ more) = (p, p.length + 12, 0) := by
  have hu : unFour (frameB p ++ more) = p.length := by
    simp only [frameB, headB, List.append_assoc]
    exact unFour_four _ (by omega) _
  have hl : (frameB p ++ more).length = p.length + 12 + more.length := by rw [List.length_append, frameB_length]
  have hh : (frameB p ++ more).take 8 = headB p.length := by
    simp only [frameB, List.append_assoc]
    rw [List.take_append_of_le_length (by rw [headB_length]; omega), List.take_of_length_le (by rw [headB_length]; omega)]
  have hw : (frameB p ++ more).take (8 + p.length) = headB p.length ++ p := by
    unfold frameB
    rw [List.append_assoc, List.take_append_of_le_length (by rw [List.length_append, headB_length]; omega), List.take_of_length_le (by rw [List.length_append, headB_length]; omega)]
  have hd : (frameB p ++ more).drop (8 + p.length) = fourB (sumOf (headB p.length ++ p)) ++ more := by
    unfold frameB
    rw [List.append_assoc]
    exact List.drop_left' (by rw [List.length_append, headB_length])
  have hb : ((frameB p ++ more).drop 8).take p.length = p := by
    have : (frameB p ++ more).drop 8 = p ++ (fourB (sumOf (headB p.length ++ p)) ++ more) := by
      simp only [frameB, List.append_assoc]
      exact List.drop_left' (headB_length _)
    rw [this]
    exact List.take_left' rfl
  unfold decB
  rw [hu, hl, hh, hw, hd, hb, unFour_four _ (sumOf_lt _)]
  rw [if_neg (by omega), if_neg (by simp), if_neg (by omega), if_neg (by omega), if_neg (by simp), Nat.add_comm 12]
end Go.Proofs.Ythlcmjgdilebeaa.F

namespace Go.Proofs.Ythlcmjgdilebeaa
open Go.RowKit

theorem encN_split {n m : Nat} {r s : List UInt8} (hn : n ≤ 4611686018427387904) (hm : m ≤ 4611686018427387904) (h : encN n ++ r = encN m ++ s) : n = m ∧ r = s := by
  have h1 := numT_enc n r false hn
  rw [h, numT_enc m s false hm] at h1
  simp only [Prod.mk.injEq, and_true] at h1
  exact ⟨h1.1.symm, h1.2.symm⟩
theorem encs_split : ∀ (vs ws : List Int) (r s : List UInt8), vs.length = ws.length → (∀ v ∈ vs, 0 ≤ v ∧ v ≤ 4611686018427387904) → (∀ v ∈ ws, 0 ≤ v ∧ v ≤ 4611686018427387904) → encs vs ++ r = encs ws ++ s → vs = ws ∧ r = s
  | [], [], r, s, _, _, _, h => ⟨rfl, by simpa [encs] using h⟩
  | v :: vs, x :: ws, r, s, hl, h1, h2, h => by
    have e : ∀ (y : Int) (l : List Int), encs (y :: l) = encN (clampN y) ++ encs l := fun y l => by simp [encs]
    rw [e, e, List.append_assoc, List.append_assoc] at h
    obtain ⟨a, b⟩ := encN_split (clampN_le _) (clampN_le _) h
    obtain ⟨p, q⟩ := encs_split vs ws r s (by simpa using hl) (fun y hy => h1 y (List.mem_cons_of_mem _ hy)) (fun y hy => h2 y (List.mem_cons_of_mem _ hy)) b
    have k1 := h1 v (List.mem_cons_self ..)
    have k2 := h2 x (List.mem_cons_self ..)
    have c1 := clampN_of k1.1 k1.2
    have c2 := clampN_of k2.1 k2.2
    exact ⟨by rw [p, ← c1, ← c2, a], q⟩
theorem encRow_split {l m r s : List UInt8} (hl : l.length ≤ 4611686018427387904) (hm : m.length ≤ 4611686018427387904) (h : encRow l ++ r = encRow m ++ s) : l = m ∧ r = s := by
  have h1 := tookOf_enc l r false hl
  rw [h, tookOf_enc m s false hm] at h1
  simp only [Prod.mk.injEq, and_true] at h1
  exact ⟨h1.1.symm, h1.2.symm⟩
theorem encS_split {a b : ByteArray} {r s : List UInt8} (ha : a.size ≤ 60) (hb : b.size ≤ 60) (h : encS a ++ r = encS b ++ s) : a = b ∧ r = s := by
  have e : ∀ x : ByteArray, x.data.toList.length = x.size := fun x => by rw [Array.length_toList]; rfl
  obtain ⟨p, q⟩ := encRow_split (by rw [e]; omega) (by rw [e]; omega) h
  refine ⟨?_, q⟩
  obtain ⟨⟨a⟩⟩ := a
  obtain ⟨⟨b⟩⟩ := b
  simp only at p
  rw [p]
theorem eqPl_iff {a b : Pl} : eqPl a b = true ↔ a = b := by
  obtain ⟨a1, a2, a3, a4, a5, a6, a7, a8, a9, ⟨b1, b2, b3, b4, b5, b6, b7, b8, b9, b10, b11, b12⟩, ⟨c1, c2, ⟨d1, d2, d3, d4⟩⟩, ⟨e1, e2, e3, e4, e5⟩⟩ := a
  obtain ⟨f1, f2, f3, f4, f5, f6, f7, f8, f9, ⟨g1, g2, g3, g4, g5, g6, g7, g8, g9, g10, g11, g12⟩, ⟨h1, h2, ⟨i1, i2, i3, i4⟩⟩, ⟨j1, j2, j3, j4, j5⟩⟩ := b
  unfold eqPl eqR eqRp eqCh
  simp only [Bool.and_eq_true, decide_eq_true_eq, toList_eq, Pl.mk.injEq, Rq.mk.injEq, Rp.mk.injEq, It.mk.injEq, Ch.mk.injEq]
  constructor
  · rintro ⟨⟨⟨⟨k1, k2, k3, k4, k5, k6, k7, k8, k9⟩, l⟩, m1, m2, m3, m4, m5, m6⟩, n⟩
    exact ⟨k1, k2, k3, k4, k5, k6, k7, k8, k9, l, ⟨m1, m2, m3, m4, m5, m6⟩, n⟩
  · rintro ⟨k1, k2, k3, k4, k5, k6, k7, k8, k9, l, ⟨m1, m2, m3, m4, m5, m6⟩, n⟩
    exact ⟨⟨⟨⟨k1, k2, k3, k4, k5, k6, k7, k8, k9⟩, l⟩, m1, m2, m3, m4, m5, m6⟩, n⟩
theorem Wd.ext4 {a b : Wd} (h1 : a.kind = b.kind) (h2 : a.pl = b.pl) (h3 : a.mp = b.mp) (h4 : a.data = b.data) : a = b := by
  obtain ⟨a0, a1, a2, a3, a4, a5, a6, a7, a8, a9, a10, a11, a12, a13, a14⟩ := a
  obtain ⟨b0, b1, b2, b3, b4, b5, b6, b7, b8, b9, b10, b11, b12, b13, b14⟩ := b
  simp only [Wd.pl, Pl.mk.injEq] at h1 h2 h3 h4
  simp only [Wd.mk.injEq]
  exact ⟨h1, h2.1, h2.2.1, h2.2.2.1, h2.2.2.2.1, h2.2.2.2.2.1, h2.2.2.2.2.2.1, h2.2.2.2.2.2.2.1, h2.2.2.2.2.2.2.2.1, h2.2.2.2.2.2.2.2.2.1, h2.2.2.2.2.2.2.2.2.2.1, h2.2.2.2.2.2.2.2.2.2.2.1, h3, h2.2.2.2.2.2.2.2.2.2.2.2, h4⟩
theorem sameM_iff {a b : Mp} : sameM a b = true ↔ a = b := by
  obtain ⟨a1, a2, a3⟩ := a
  obtain ⟨b1, b2, b3⟩ := b
  unfold sameM
  simp only [decide_eq_true_eq, Mp.mk.injEq]
theorem sameWd_iff {a b : Wd} : sameWd a b = true ↔ a = b := by
  rw [sameWd_eq]
  simp only [Bool.and_eq_true, decide_eq_true_eq, eqPl_iff, sameM_iff]
  constructor
  · rintro ⟨⟨⟨h1, h2⟩, h3⟩, h4⟩
    exact Wd.ext4 h1 h2 h3 h4
  · rintro rfl
    exact ⟨⟨⟨rfl, rfl⟩, rfl⟩, rfl⟩
/-- What a word that may be is. -/
structure Is (d : Wd) : Prop where
  ok : okD d = true
  nums : numsW d = true
  pl : d.pl = namedW d
  mp : d.mp = mapW d
  data : d.data = dataW d
theorem is_of {d : Wd} (h : mayW d = true) : Is d := by
  rw [← docW_eq] at h
  unfold docW at h
  simp only [Bool.and_eq_true, decide_eq_true_eq, eqPl_iff, sameM_iff] at h
  exact ⟨h.1.1, h.1.2, h.2.1.1.symm, h.2.1.2.symm, h.2.2.symm⟩
theorem Is.kind {d : Wd} (h : Is d) : d.kind = 1 ∨ d.kind = 2 ∨ d.kind = 3 ∨ d.kind = 4 ∨ d.kind = 5 ∨ d.kind = 6 ∨ d.kind = 7 ∨ d.kind = 8 ∨ d.kind = 9 ∨ d.kind = 10 := by
  rcases (show (d.kind = 1 ∨ d.kind = 2 ∨ d.kind = 3 ∨ d.kind = 4 ∨ d.kind = 5 ∨ d.kind = 6 ∨ d.kind = 7 ∨ d.kind = 8 ∨ d.kind = 9 ∨ d.kind = 10) ∨ (d.kind ≠ 1 ∧ d.kind ≠ 2 ∧ d.kind ≠ 3 ∧ d.kind ≠ 4 ∧ d.kind ≠ 5 ∧ d.kind ≠ 6 ∧ d.kind ≠ 7 ∧ d.kind ≠ 8 ∧ d.kind ≠ 9 ∧ d.kind ≠ 10) by omega) with k | ⟨k1, k2, k3, k4, k5, k6, k7, k8, k9, k10⟩
  · exact k
  · have := h.ok
    simp [okD, k1, k2, k3, k4, k5, k6, k7, k8, k9, k10] at this
theorem Is.err {d : Wd} (h : Is d) : 0 ≤ d.err ∧ d.err ≤ 19 := by
  by_cases k : d.kind = 6
  · have := h.ok
    simp [okD, k] at this
    omega
  · have e : d.err = (namedW d).err := congrArg Pl.err h.pl
    have : (namedW d).err = 0 := by unfold namedW; simp only [k, if_false]; split <;> (try split) <;> (try split) <;> (try split) <;> (try split) <;> (try split) <;> rfl
    omega
theorem Is.bounds {d : Wd} (h : Is d) : ∀ v ∈ [d.kind, d.zone, d.epoch, d.index, d.size, d.off, d.host, d.err], 0 ≤ v ∧ v ≤ 4611686018427387904 := by
  have h1 := h.kind
  have h2 := h.err
  have h3 := h.nums
  unfold numsW numW at h3
  simp only [Bool.and_eq_true, decide_eq_true_eq] at h3
  intro v hv
  simp only [List.mem_cons, List.not_mem_nil, or_false] at hv
  rcases hv with rfl | rfl | rfl | rfl | rfl | rfl | rfl | rfl <;> omega
theorem Is.opnums {d : Wd} (h : Is d) (k : d.kind = 6) : ∀ v ∈ [d.op.kind, d.op.client, d.op.seq], 0 ≤ v ∧ v ≤ 4611686018427387904 := by
  have := h.ok
  simp [okD, k] at this
  intro v hv
  simp only [List.mem_cons, List.not_mem_nil, or_false] at hv
  rcases hv with rfl | rfl | rfl <;> omega
theorem eqR_iff {a b : Rq} : eqR a b = true ↔ a = b := by
  obtain ⟨b1, b2, b3, b4, b5, b6, b7, b8, b9, b10, b11, b12⟩ := a
  obtain ⟨g1, g2, g3, g4, g5, g6, g7, g8, g9, g10, g11, g12⟩ := b
  unfold eqR
  simp only [decide_eq_true_eq, toList_eq, Rq.mk.injEq]
theorem Is.ophead {d : Wd} (h : Is d) (k : d.kind = 6) : d.op = headR d.op := by
  have := h.ok
  simp only [okD, k, Int.reduceEq, if_false, if_true, Bool.and_eq_true] at this
  exact eqR_iff.1 this.1.1.1
theorem named_eq {a b : Wd} (hk : a.kind = b.kind) (h1 : a.zone = b.zone) (h2 : a.epoch = b.epoch) (h3 : a.index = b.index) (h4 : a.size = b.size) (h5 : a.off = b.off) (h6 : a.host = b.host) (h7 : a.err = b.err) (h8 : a.sf = b.sf) (h9 : a.st = b.st) (hc : a.kind = 4 → a.ch = b.ch) (ho : a.kind = 5 → a.op = b.op) (ha : a.kind = 6 → a.op = b.op ∧ a.rep = b.rep) : namedW a = namedW b := by
  unfold namedW
  rw [← hk, h1, h2, h3, h4, h5, h6, h7, h8, h9]
  by_cases k2 : a.kind = 2
  · rw [if_pos k2, if_pos k2]
  rw [if_neg k2, if_neg k2]
  by_cases k4 : a.kind = 4
  · rw [if_pos k4, if_pos k4, hc k4]
  rw [if_neg k4, if_neg k4]
  by_cases k5 : a.kind = 5
  · rw [if_pos k5, if_pos k5, ho k5]
  rw [if_neg k5, if_neg k5]
  by_cases k6 : a.kind = 6
  · rw [if_pos k6, if_pos k6, (ha k6).1, (ha k6).2]
  rw [if_neg k6, if_neg k6]
/-- The words are one. -/
theorem encW_inj {a b : Wd} (ha : mayW a = true) (hb : mayW b = true) (la : Light a) (lb : Light b) (wa : (wdB a).length ≤ 1048576) (wb : (wdB b).length ≤ 1048576) (h : encW a = encW b) : a = b := by
  have e : wdB a = wdB b := by
    have h1 := F.dec_frame (wdB a) [] wa
    have h2 := F.dec_frame (wdB b) [] wb
    unfold encW at h
    rw [h, h2] at h1
    simp only [Prod.mk.injEq] at h1
    exact h1.1.symm
  have Ia := is_of ha
  have Ib := is_of hb
  unfold wdB at e
  simp only [List.append_assoc] at e
  obtain ⟨n, e⟩ := encs_split [a.kind, a.zone, a.epoch, a.index, a.size, a.off, a.host, a.err] [b.kind, b.zone, b.epoch, b.index, b.size, b.off, b.host, b.err] _ _ rfl Ia.bounds Ib.bounds e
  simp only [List.cons.injEq, and_true] at n
  obtain ⟨hk, n1, n2, n3, n4, n5, n6, n7⟩ := n
  obtain ⟨s1, e⟩ := encS_split la.sf lb.sf e
  obtain ⟨s2, e⟩ := encS_split la.st lb.st e
  have ra := restW_length ha la
  have rb := restW_length hb lb
  have fin : ∀ {x y : List UInt8}, x.length ≤ 4611686018427387904 → y.length ≤ 4611686018427387904 → encRow x = encRow y → x = y := fun h1 h2 h => (encRow_split (r := []) (s := []) h1 h2 (by rw [h])).1
  have key : (a.kind = 6 → a.op = b.op) ∧ restW a = restW b := by
    by_cases k6 : a.kind = 6
    · have k6b : b.kind = 6 := by rw [← hk]; exact k6
      have oa : opsB a = encs [a.op.kind, a.op.client, a.op.seq] := by unfold opsB; rw [if_pos k6]
      have ob : opsB b = encs [b.op.kind, b.op.client, b.op.seq] := by unfold opsB; rw [if_pos k6b]
      rw [oa, ob] at e
      obtain ⟨m, e⟩ := encs_split [a.op.kind, a.op.client, a.op.seq] [b.op.kind, b.op.client, b.op.seq] _ _ rfl (Ia.opnums k6) (Ib.opnums k6b) e
      simp only [List.cons.injEq, and_true] at m
      refine ⟨fun _ => ?_, fin (by omega) (by omega) e⟩
      rw [Ia.ophead k6, Ib.ophead k6b]
      unfold headR
      rw [m.1, m.2.1, m.2.2]
    · have k6b : ¬ b.kind = 6 := by rw [← hk]; exact k6
      have oa : opsB a = [] := by unfold opsB; rw [if_neg k6]
      have ob : opsB b = [] := by unfold opsB; rw [if_neg k6b]
      rw [oa, ob, List.nil_append, List.nil_append] at e
      exact ⟨fun k => absurd k k6, fin (by omega) (by omega) e⟩
  obtain ⟨hop, hr⟩ := key
  unfold restW at hr
  rw [← hk] at hr
  have hmp : a.mp = b.mp := by
    rw [Ia.mp, Ib.mp]
    unfold mapW hasM
    rw [← hk]
    by_cases k3 : a.kind = 3
    · rw [if_pos (by rw [k3]; rfl), if_pos (by rw [k3]; rfl)]
      rw [if_pos k3, if_pos k3] at hr
      have ma : mayM a.mp = true := by have := Ia.ok; simpa [okD, k3] using this
      have mb : mayM b.mp = true := by have := Ib.ok; simpa [okD, ← hk, k3] using this
      have g1 := (O.good_enc ma la.mp.sz).2
      have g2 := (O.good_enc mb lb.mp.sz).2
      rw [← g1, ← g2, hr]
    · rw [if_neg (by simp [k3]), if_neg (by simp [k3])]
  have hda : a.data = b.data := by
    rw [Ia.data, Ib.data]
    unfold dataW
    rw [← hk]
    by_cases k : hasD a.kind = true
    · rw [if_pos k, if_pos k]
      have kk : a.kind = 1 ∨ a.kind = 7 ∨ a.kind = 9 := by simpa [hasD] using k
      have k3 : ¬ a.kind = 3 := by omega
      have k4 : ¬ a.kind = 4 := by omega
      have k5 : ¬ a.kind = 5 := by omega
      have k6 : ¬ a.kind = 6 := by omega
      rwa [if_neg k3, if_neg k4, if_neg k5, if_neg k6, if_neg k3, if_neg k4, if_neg k5, if_neg k6] at hr
    · rw [if_neg k, if_neg k]
  refine Wd.ext4 hk ?_ hmp hda
  rw [Ia.pl, Ib.pl]
  refine named_eq hk n1 n2 n3 n4 n5 n6 n7 s1 s2 (fun k => ?_) (fun k => ?_) (fun k => ⟨hop k, ?_⟩)
  · have k3 : ¬ a.kind = 3 := by omega
    rw [if_neg k3, if_pos k, if_neg k3, if_pos k] at hr
    have ma : mayC a.ch = true := by have := Ia.ok; simpa [okD, k] using this
    have mb : mayC b.ch = true := by have := Ib.ok; simpa [okD, ← hk, k] using this
    have g1 := (O.goodC_enc ma).2
    have g2 := (O.goodC_enc mb).2
    rw [← g1, ← g2, hr]
  · have k3 : ¬ a.kind = 3 := by omega
    have k4 : ¬ a.kind = 4 := by omega
    rw [if_neg k3, if_neg k4, if_pos k, if_neg k3, if_neg k4, if_pos k] at hr
    have ma : mayO a.op = true := by have := Ia.ok; simpa [okD, k] using this
    have mb : mayO b.op = true := by have := Ib.ok; simpa [okD, ← hk, k] using this
    exact encO_inj ma mb hr
  · have k3 : ¬ a.kind = 3 := by omega
    have k4 : ¬ a.kind = 4 := by omega
    have k5 : ¬ a.kind = 5 := by omega
    rw [if_neg k3, if_neg k4, if_neg k5, if_pos k, if_neg k3, if_neg k4, if_neg k5, if_pos k] at hr
    have ma := mayW_rep ha k
    have mb := mayW_rep hb (by rw [← hk]; exact k)
    rw [← (rpOf_enc ma).2, ← (rpOf_enc mb).2, hr]
theorem apart_eq {a b : Wd} (ha : mayW a = true) (hb : mayW b = true) (la : Light a) (lb : Light b) : (encW a == encW b) = sameWd a b := by
  rw [Bool.eq_iff_iff, beq_iff_eq, sameWd_iff]
  exact ⟨encW_inj ha hb la lb (by have := wdB_length ha la; omega) (by have := wdB_length hb lb; omega), fun h => by rw [h]⟩
end Go.Proofs.Ythlcmjgdilebeaa

