/- A request from bytes, in plain Lean: there and back. -/
import Derived.Test.YtglidhbkglfkeaaEncP
import Derived.Test.YtglidhbkglfkeaaRdNums
import Derived.Test.YtglidhbkglfkeaaBackNum
namespace Go.Proofs.Ytglidhbkglfkeaa
open Go.RowKit

theorem numR_back : ∀ (l : List UInt8) (i u n : Nat) (r : List UInt8), numR i u l = some (n, r) → u < 128 ^ i → ∃ m, n = u + m * 128 ^ i ∧ l = encN m ++ r ∧ (0 < i → 0 < m)
  | [], i, u, n, r, h, _ => by simp [numR] at h
  | c :: t, i, u, n, r, h, hu => by
    have hle := (numR_left (c :: t) i u n r h).1
    rw [numR] at h
    split at h
    · cases h
    · rename_i hc
      split at h
      · rename_i hlt
        split at h
        · cases h
        · simp only [Option.some.injEq, Prod.mk.injEq] at h
          obtain ⟨rfl, rfl⟩ := h
          refine ⟨c.toNat, rfl, ?_, fun hi => ?_⟩
          · rw [encN_small hlt]; simp
          · rcases Nat.eq_zero_or_pos c.toNat with h0 | h0
            · exact absurd (.inr ⟨hi, UInt8.toNat_inj.1 (by simpa using h0)⟩) hc
            · exact h0
      · rename_i hge
        have hu2 := digit_lt i u (c.toNat % 128) hu (Nat.mod_lt _ (by omega))
        obtain ⟨m, hn, ht, hm⟩ := numR_back t (i + 1) _ n r h hu2
        have hm := hm (by omega)
        have hlt := c.toNat_lt
        have hn2 : n = u + (c.toNat % 128 + 128 * m) * 128 ^ i := by
          rw [hn, Nat.pow_succ, Nat.add_mul, ← Nat.add_assoc]
          congr 1
          generalize 128 ^ i = q
          ac_rfl
        refine ⟨c.toNat % 128 + 128 * m, hn2, ?_, fun _ => by omega⟩
        have hbig : ¬ (c.toNat % 128 + 128 * m < 128) := by omega
        have hp : 0 < 128 ^ i := Nat.pow_pos (by omega)
        have hsz : c.toNat % 128 + 128 * m ≤ 4611686018427387904 := by
          have := Nat.le_mul_of_pos_right (c.toNat % 128 + 128 * m) hp
          omega
        rw [encN_big hbig hsz, show (c.toNat % 128 + 128 * m) % 128 + 128 = c.toNat by omega, show (c.toNat % 128 + 128 * m) / 128 = m by omega, ht]
        simp
theorem numT_back {rest : List UInt8} {bad : Bool} (h : (numT rest bad).2.2 = false) : bad = false ∧ rest = encN (numT rest bad).1 ++ (numT rest bad).2.1 := by
  unfold numT at h ⊢
  cases ho : numOf rest with
  | none => rw [ho] at h; simp at h
  | some o =>
    obtain ⟨n, r⟩ := o
    rw [ho] at h
    simp only at h ⊢
    obtain ⟨m, hn, hl, -⟩ := numR_back rest 0 0 n r ho (by simp)
    obtain rfl : n = m := by simpa using hn
    exact ⟨h, hl⟩
theorem tookOf_back {rest : List UInt8} {bad : Bool} (h : (tookOf rest bad).2.2 = false) : bad = false ∧ rest = encRow (tookOf rest bad).1 ++ (tookOf rest bad).2.1 := by
  unfold tookOf bytesOf at h ⊢
  cases ho : numOf rest with
  | none => rw [ho] at h; simp at h
  | some o =>
    obtain ⟨n, r⟩ := o
    rw [ho] at h
    obtain ⟨m, hn, hl, -⟩ := numR_back rest 0 0 n r ho (by simp)
    obtain rfl : n = m := by simpa using hn
    by_cases hc : n ≤ r.length
    · simp only [hc, if_true] at h ⊢
      refine ⟨h, ?_⟩
      unfold encRow
      rw [List.length_take, Nat.min_eq_left hc, List.append_assoc, List.take_append_drop]
      exact hl
    · simp only [hc, if_false] at h
      cases h
theorem rdSt_back {rest : List UInt8} {bad : Bool} {k : Nat} (h : (rdSt rest bad (k + 1)).2 = false) : (rdSt rest bad k).2 = false ∧ (rdSt rest bad k).1 = encN (rdVal rest bad k) ++ (rdSt rest bad (k + 1)).1 := numT_back h
theorem rdVal_le (rest : List UInt8) (bad : Bool) (k : Nat) : rdVal rest bad k ≤ 4611686018427387904 := (numT_le _ _).2
theorem numT_enc (n : Nat) (r : List UInt8) (bad : Bool) (h : n ≤ 4611686018427387904) : numT (encN n ++ r) bad = (n, r, bad) := by
  unfold numT; rw [numOf_enc n r h]
theorem rdSt_shift (rest : List UInt8) (bad : Bool) (k : Nat) : rdSt rest bad (k + 1) = rdSt (numT rest bad).2.1 (numT rest bad).2.2 k := by
  induction k with
  | zero => rfl
  | succ k ih => rw [rdSt, ih]; rfl
theorem rdVal_shift (rest : List UInt8) (bad : Bool) (k : Nat) : rdVal rest bad (k + 1) = rdVal (numT rest bad).2.1 (numT rest bad).2.2 k := by
  unfold rdVal; rw [rdSt_shift]
theorem rdSt_enc (n : Nat) (r : List UInt8) (bad : Bool) (k : Nat) (h : n ≤ 4611686018427387904) : rdSt (encN n ++ r) bad (k + 1) = rdSt r bad k := by rw [rdSt_shift, numT_enc n r bad h]
theorem rdVal_enc (n : Nat) (r : List UInt8) (bad : Bool) (k : Nat) (h : n ≤ 4611686018427387904) : rdVal (encN n ++ r) bad (k + 1) = rdVal r bad k := by rw [rdVal_shift, numT_enc n r bad h]
theorem rdVal_enc0 (n : Nat) (r : List UInt8) (bad : Bool) (h : n ≤ 4611686018427387904) : rdVal (encN n ++ r) bad 0 = n := by unfold rdVal; simp only [rdSt]; rw [numT_enc n r bad h]

/-- What is read of a request, part by part; what is left behind it. -/
structure Dq where
  k : Nat
  c : Nat
  s : Nat
  key : List UInt8
  who : List UInt8
  tkey : List UInt8
  twho : List UInt8
  i : Nat
  n : Nat
  p : Nat
  b : Nat
  d : Nat
  rest : List UInt8
  bad : Bool
def tk1 (l : List UInt8) := tookOf (rdSt l false 3).1 (rdSt l false 3).2
def tk2 (l : List UInt8) := tookOf (tk1 l).2.1 (tk1 l).2.2
def tk3 (l : List UInt8) := tookOf (tk2 l).2.1 (tk2 l).2.2
def tk4 (l : List UInt8) := tookOf (tk3 l).2.1 (tk3 l).2.2
def decD (l : List UInt8) : Dq := ⟨rdVal l false 0, rdVal l false 1, rdVal l false 2, (tk1 l).1, (tk2 l).1, (tk3 l).1, (tk4 l).1,
  rdVal (tk4 l).2.1 (tk4 l).2.2 0, rdVal (tk4 l).2.1 (tk4 l).2.2 1, rdVal (tk4 l).2.1 (tk4 l).2.2 2, rdVal (tk4 l).2.1 (tk4 l).2.2 3, rdVal (tk4 l).2.1 (tk4 l).2.2 4, (rdSt (tk4 l).2.1 (tk4 l).2.2 5).1, (rdSt (tk4 l).2.1 (tk4 l).2.2 5).2⟩
/-- The request. -/
def dqQ (d : Dq) : Rq := ⟨d.k, d.c, d.s, ⟨d.key.toArray⟩, ⟨d.who.toArray⟩, ⟨d.tkey.toArray⟩, ⟨d.twho.toArray⟩, d.i, d.n, d.p, d.b == 1, d.d⟩
def wholeD (d : Dq) : Bool := !d.bad && d.rest.isEmpty
/-- Bytes of what was read. -/
def encD (d : Dq) : List UInt8 := encN d.k ++ (encN d.c ++ (encN d.s ++ (encRow d.key ++ (encRow d.who ++ (encRow d.tkey ++ (encRow d.twho ++ (encN d.i ++ (encN d.n ++ (encN d.p ++ (encN d.b ++ encN d.d))))))))))
theorem app_eq {a x r r' : List UInt8} (h : a = x ++ r) (k : r = r') : a = x ++ r' := k ▸ h
theorem took_step {s : List UInt8 × Bool} {t : List UInt8 × List UInt8 × Bool} (ht : t = tookOf s.1 s.2) (h : t.2.2 = false) : s.2 = false ∧ s.1 = encRow t.1 ++ t.2.1 := by subst ht; exact tookOf_back h
theorem rdSt_zero (r : List UInt8) (b : Bool) : rdSt r b 0 = (r, b) := rfl
theorem rdSt_step {r : List UInt8} {b : Bool} {k j : Nat} (hj : j = k + 1) (h : (rdSt r b j).2 = false) : (rdSt r b k).2 = false ∧ (rdSt r b k).1 = encN (rdVal r b k) ++ (rdSt r b j).1 := by subst hj; exact rdSt_back h
theorem decD_back {l : List UInt8} (h : wholeD (decD l) = true) : l = encD (decD l) := by
  have h5 : (rdSt (tk4 l).2.1 (tk4 l).2.2 5).2 = false ∧ (rdSt (tk4 l).2.1 (tk4 l).2.2 5).1 = [] := by
    simp only [wholeD, Bool.and_eq_true, Bool.not_eq_true', List.isEmpty_iff, decD] at h
    exact h
  obtain ⟨h5, hr⟩ := h5
  obtain ⟨h4, e4⟩ := rdSt_step (k := 4) rfl h5
  obtain ⟨h3, e3⟩ := rdSt_step (k := 3) rfl h4
  obtain ⟨h2, e2⟩ := rdSt_step (k := 2) rfl h3
  obtain ⟨h1, e1⟩ := rdSt_step (k := 1) rfl h2
  obtain ⟨h0, e0⟩ := rdSt_step (k := 0) rfl h1
  rw [hr, List.append_nil] at e4
  have e3 := app_eq e3 e4
  have e2 := app_eq e2 e3
  have e1 := app_eq e1 e2
  have e0 := app_eq e0 e1
  rw [rdSt_zero] at h0 e0
  obtain ⟨t4, f4⟩ := took_step (s := (tk3 l).2) (t := tk4 l) rfl h0
  obtain ⟨t3, f3⟩ := took_step (s := (tk2 l).2) (t := tk3 l) rfl t4
  obtain ⟨t2, f2⟩ := took_step (s := (tk1 l).2) (t := tk2 l) rfl t3
  obtain ⟨t1, f1⟩ := took_step (s := rdSt l false 3) (t := tk1 l) rfl t2
  have f4 := app_eq f4 e0
  have f3 := app_eq f3 f4
  have f2 := app_eq f2 f3
  have f1 := app_eq f1 f2
  obtain ⟨g2, q2⟩ := rdSt_step (k := 2) rfl t1
  obtain ⟨g1, q1⟩ := rdSt_step (k := 1) rfl g2
  obtain ⟨g0, q0⟩ := rdSt_step (k := 0) rfl g1
  have q2 := app_eq q2 f1
  have q1 := app_eq q1 q2
  have q0 := app_eq q0 q1
  rw [rdSt_zero] at q0
  simp only [encD, decD]
  exact q0
theorem decD_enc (d : Dq) (hk : d.k ≤ 4611686018427387904) (hc : d.c ≤ 4611686018427387904) (hs : d.s ≤ 4611686018427387904) (hi : d.i ≤ 4611686018427387904) (hn : d.n ≤ 4611686018427387904) (hp : d.p ≤ 4611686018427387904) (hb : d.b ≤ 4611686018427387904) (hd : d.d ≤ 4611686018427387904)
    (h1 : d.key.length ≤ 4611686018427387904) (h2 : d.who.length ≤ 4611686018427387904) (h3 : d.tkey.length ≤ 4611686018427387904) (h4 : d.twho.length ≤ 4611686018427387904) (hr : d.rest = []) (hbad : d.bad = false) : decD (encD d) = d := by
  have t1 : tk1 (encD d) = (d.key, encRow d.who ++ (encRow d.tkey ++ (encRow d.twho ++ (encN d.i ++ (encN d.n ++ (encN d.p ++ (encN d.b ++ encN d.d)))))), false) := by
    unfold tk1 encD
    rw [rdSt_enc _ _ _ _ hk, rdSt_enc _ _ _ _ hc, rdSt_enc _ _ _ _ hs]
    exact tookOf_enc _ _ _ h1
  have t2 : tk2 (encD d) = (d.who, encRow d.tkey ++ (encRow d.twho ++ (encN d.i ++ (encN d.n ++ (encN d.p ++ (encN d.b ++ encN d.d))))), false) := by
    unfold tk2; rw [t1]; exact tookOf_enc _ _ _ h2
  have t3 : tk3 (encD d) = (d.tkey, encRow d.twho ++ (encN d.i ++ (encN d.n ++ (encN d.p ++ (encN d.b ++ encN d.d)))), false) := by
    unfold tk3; rw [t2]; exact tookOf_enc _ _ _ h3
  have t4 : tk4 (encD d) = (d.twho, encN d.i ++ (encN d.n ++ (encN d.p ++ (encN d.b ++ encN d.d))), false) := by
    unfold tk4; rw [t3]; exact tookOf_enc _ _ _ h4
  have z : encN d.d = encN d.d ++ [] := (List.append_nil _).symm
  have e : decD (encD d) = ⟨d.k, d.c, d.s, d.key, d.who, d.tkey, d.twho, d.i, d.n, d.p, d.b, d.d, [], false⟩ := by
    unfold decD
    rw [t1, t2, t3, t4]
    simp only [encD]
    rw [z]
    rw [rdVal_enc0 _ _ _ hk, rdVal_enc _ _ _ _ hk, rdVal_enc0 _ _ _ hc, rdVal_enc _ _ _ _ hk, rdVal_enc _ _ _ _ hc, rdVal_enc0 _ _ _ hs]
    rw [rdVal_enc0 _ _ _ hi, rdVal_enc _ _ _ 0 hi, rdVal_enc0 _ _ _ hn, rdVal_enc _ _ _ 1 hi, rdVal_enc _ _ _ _ hn, rdVal_enc0 _ _ _ hp, rdVal_enc _ _ _ 2 hi, rdVal_enc _ _ _ _ hn, rdVal_enc _ _ _ _ hp, rdVal_enc0 _ _ _ hb, rdVal_enc _ _ _ 3 hi, rdVal_enc _ _ _ _ hn, rdVal_enc _ _ _ _ hp, rdVal_enc _ _ _ _ hb, rdVal_enc0 _ _ _ hd]
    rw [rdSt_enc _ _ _ _ hi, rdSt_enc _ _ _ _ hn, rdSt_enc _ _ _ _ hp, rdSt_enc _ _ _ _ hb, rdSt_enc _ _ _ _ hd]
    rfl
  rw [e]
  obtain ⟨k, c, s, key, who, tkey, twho, i, n, p, b, dd, rest, bad⟩ := d
  simp only at hr hbad
  subst hr hbad
  rfl
theorem may_bounds {o : Rq} (h : mayO o = true) : (1 ≤ o.kind ∧ o.kind ≤ 7) ∧ (1 ≤ o.client ∧ o.client ≤ 1048576) ∧ (1 ≤ o.seq ∧ o.seq ≤ 1099511627776) ∧ (0 ≤ o.item ∧ o.item ≤ 3) ∧ (0 ≤ o.count ∧ o.count ≤ 1048576) ∧ (0 ≤ o.price ∧ o.price ≤ 1024) ∧ (0 ≤ o.id ∧ o.id ≤ 1099511627776) := by
  obtain ⟨hp, hk, hc⟩ := may_kind h
  rcases kind_parts hk with ⟨hkk, h⟩ | ⟨hkk, h⟩ | ⟨hkk, h⟩ | ⟨hkk, h⟩ | ⟨hkk, h⟩
  · simp only [cntO, decide_eq_true_eq] at h; omega
  · simp only [sendO, cntO, Bool.and_eq_true, decide_eq_true_eq] at h; omega
  · simp only [ordO, cntO, Bool.and_eq_true, decide_eq_true_eq] at h; omega
  · simp only [canO, decide_eq_true_eq] at h; omega
  · simp only [barO, decide_eq_true_eq] at h; omega
theorem clampN_of {v : Int} (h0 : 0 ≤ v) (h : v ≤ 4611686018427387904) : ((clampN v : Nat) : Int) = v := by unfold clampN; omega
theorem clampN_nat {n : Nat} (h : n ≤ 4611686018427387904) : clampN (n : Int) = n := by unfold clampN; omega
/-- What is read of a request's bytes. -/
def qD (o : Rq) : Dq := ⟨clampN o.kind, clampN o.client, clampN o.seq, o.key.data.toList, o.who.data.toList, o.tkey.data.toList, o.twho.data.toList, clampN o.item, clampN o.count, clampN o.price, clampN (b1 o.buy), clampN o.id, [], false⟩
theorem encD_q (o : Rq) : encD (qD o) = encO o := by
  simp only [encD, qD, encO, encs, encS, List.flatMap_cons, List.flatMap_nil, List.append_nil, List.append_assoc]
theorem decD_q {o : Rq} (h : mayO o = true) : decD (encO o) = qD o := by
  rw [← encD_q]
  have hz := may_sizes h
  have e : ∀ s : ByteArray, s.data.toList.length = s.size := fun s => by rw [Array.length_toList]; rfl
  have h1 : (qD o).key.length ≤ 4611686018427387904 := by show o.key.data.toList.length ≤ _; rw [e]; omega
  have h2 : (qD o).who.length ≤ 4611686018427387904 := by show o.who.data.toList.length ≤ _; rw [e]; omega
  have h3 : (qD o).tkey.length ≤ 4611686018427387904 := by show o.tkey.data.toList.length ≤ _; rw [e]; omega
  have h4 : (qD o).twho.length ≤ 4611686018427387904 := by show o.twho.data.toList.length ≤ _; rw [e]; omega
  have c : ∀ v, clampN v ≤ 4611686018427387904 := clampN_le
  refine decD_enc (qD o) ?_ ?_ ?_ ?_ ?_ ?_ ?_ ?_ h1 h2 h3 h4 rfl rfl
  all_goals (simp only [qD]; exact c _)
theorem dqQ_q {o : Rq} (h : mayO o = true) : dqQ (qD o) = o := by
  have hb := may_bounds h
  obtain ⟨kind, client, seq, key, who, tkey, twho, item, count, price, buy, id⟩ := o
  simp only at hb
  have e : ∀ s : ByteArray, (⟨s.data.toList.toArray⟩ : ByteArray) = s := fun s => by simp
  simp only [dqQ, qD, e, Rq.mk.injEq, true_and]
  refine ⟨clampN_of (by omega) (by omega), clampN_of (by omega) (by omega), clampN_of (by omega) (by omega), clampN_of (by omega) (by omega), clampN_of (by omega) (by omega), clampN_of (by omega) (by omega), ?_, clampN_of (by omega) (by omega)⟩
  cases buy <;> rfl
theorem encO_inj {a b : Rq} (ha : mayO a = true) (hb : mayO b = true) (h : encO a = encO b) : a = b := by
  have := decD_q ha
  rw [h, decD_q hb] at this
  rw [← dqQ_q ha, ← this, dqQ_q hb]
theorem encD_of {d : Dq} (hk : d.k ≤ 4611686018427387904) (hc : d.c ≤ 4611686018427387904) (hs : d.s ≤ 4611686018427387904) (hi : d.i ≤ 4611686018427387904) (hn : d.n ≤ 4611686018427387904) (hp : d.p ≤ 4611686018427387904) (hb : d.b ≤ 1) (hd : d.d ≤ 4611686018427387904) : encO (dqQ d) = encD d := by
  rw [← encD_q]
  have e1 : clampN (b1 (d.b == 1)) = d.b := by
    have : d.b = 0 ∨ d.b = 1 := by omega
    rcases this with h | h <;> rw [h] <;> rfl
  simp only [encD, qD, dqQ, clampN_nat hk, clampN_nat hc, clampN_nat hs, clampN_nat hi, clampN_nat hn, clampN_nat hp, clampN_nat hd, e1]
theorem decD_le (l : List UInt8) : (decD l).k ≤ 4611686018427387904 ∧ (decD l).c ≤ 4611686018427387904 ∧ (decD l).s ≤ 4611686018427387904 ∧ (decD l).i ≤ 4611686018427387904 ∧ (decD l).n ≤ 4611686018427387904 ∧ (decD l).p ≤ 4611686018427387904 ∧ (decD l).b ≤ 4611686018427387904 ∧ (decD l).d ≤ 4611686018427387904 := by
  simp only [decD]
  exact ⟨rdVal_le _ _ _, rdVal_le _ _ _, rdVal_le _ _ _, rdVal_le _ _ _, rdVal_le _ _ _, rdVal_le _ _ _, rdVal_le _ _ _, rdVal_le _ _ _⟩
/-- The request that bytes are, if they are one. -/
def goodD (l : List UInt8) : Bool := wholeD (decD l) && decide ((decD l).b ≤ 1) && mayO (dqQ (decD l))
theorem goodD_prog (l : List UInt8) : (wholeD (decD l) && mayO (dqQ (decD l)) && (l == encO (dqQ (decD l)))) = goodD l := by
  unfold goodD
  cases hw : wholeD (decD l) with
  | false => simp only [Bool.false_and]
  | true =>
    cases hm : mayO (dqQ (decD l)) with
    | false => simp only [Bool.and_false, Bool.false_and]
    | true =>
      simp only [Bool.true_and, Bool.and_true]
      by_cases hb : (decD l).b ≤ 1
      · obtain ⟨b1, b2, b3, b4, b5, b6, -, b8⟩ := decD_le l
        have h1 := encD_of b1 b2 b3 b4 b5 b6 hb b8
        have h2 := decD_back hw
        generalize decD l = d at *
        rw [h1, ← h2]
        simp [hb]
      · have hne : l ≠ encO (dqQ (decD l)) := fun e => by
          have h1 := decD_q hm
          rw [← e] at h1
          generalize decD l = d at *
          have h2 : d.b = clampN (b1 (d.b == 1)) := congrArg Dq.b h1
          have h3 : (d.b == 1) = false := by rw [beq_eq_false_iff_ne]; omega
          rw [h3] at h2
          have h4 : clampN (b1 false) = 0 := rfl
          omega
        rw [beq_eq_false_iff_ne.2 hne]
        simp [hb]
theorem goodD_q {o : Rq} (h : mayO o = true) : goodD (encO o) = true := by
  unfold goodD
  rw [decD_q h, dqQ_q h, h, Bool.and_true, Bool.and_eq_true, decide_eq_true_eq]
  refine ⟨rfl, ?_⟩
  show clampN (b1 o.buy) ≤ 1
  cases o.buy <;> decide
end Go.Proofs.Ytglidhbkglfkeaa
