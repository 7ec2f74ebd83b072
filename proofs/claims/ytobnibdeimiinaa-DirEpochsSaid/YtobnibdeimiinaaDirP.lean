/- A map's zones and what changes them, in plain Lean: what holds of a map stays. -/
import Derived.Test.YtobnibdeimiinaaPartsPlain
namespace Go.Proofs.Ytobnibdeimiinaa

/-- A zone. -/
structure Zn where
  id : Int
  fr : ByteArray
  to : ByteArray
  owner : Int
  epoch : Int
  pend : Int
  tt : Int
  key : ByteArray
  nw : Int
deriving DecidableEq
/-- A change. -/
structure Ch where
  kind : Int
  zone : Int
  epoch : Int
  tt : Int
  key : ByteArray
/-- A map. -/
structure Mp where
  ver : Int
  next : Int
  zs : List Zn
def z0 : ByteArray := ⟨#[]⟩
abbrev topN : Int := 1099511627776
def mayC (c : Ch) : Bool := decide (1 ≤ c.zone ∧ c.zone ≤ 1099511627776) &&
  (if c.kind = 1 then decide (1 ≤ c.key.size ∧ c.key.size ≤ 16 ∧ c.epoch = 0 ∧ c.tt = 0)
  else if c.kind = 2 then decide (c.epoch = 0 ∧ c.tt = 0 ∧ c.key.toList = [])
  else if c.kind = 3 then decide (1 ≤ c.tt ∧ c.tt ≤ 1048576 ∧ c.epoch = 0 ∧ c.key.toList = [])
  else if c.kind = 4 ∨ c.kind = 5 then decide (1 ≤ c.epoch ∧ c.epoch ≤ 1099511627776 ∧ c.tt = 0 ∧ c.key.toList = [])
  else false)
/-- Where a zone stands. -/
def findZ (l : List Zn) (id : Int) : Option Nat := l.findIdx? fun z => z.id == id
def pendN (k : Int) (l : List Zn) : Nat := (l.filter fun z => z.pend == k).length
/-- A zone of a new epoch with nothing under way. -/
def endedZ (z : Zn) (e : Int) : Zn := { z with epoch := e, pend := 0, tt := 0, key := z0, nw := 0 }
def spz (z : Zn) : Sp := (z.fr, z.to)

/-- Numbers of zones: those that are there, those of splits. -/
def numsZ (z : Zn) : List Int := if z.pend = 1 then [z.id, z.nw] else [z.id]
def nums (l : List Zn) : List Int := l.flatMap numsZ
theorem nums_append (a b : List Zn) : nums (a ++ b) = nums a ++ nums b := by simp [nums]
theorem nums_cons (a : Zn) (b : List Zn) : nums (a :: b) = numsZ a ++ nums b := by simp [nums]
theorem id_mem {l : List Zn} {z : Zn} (h : z ∈ l) : z.id ∈ nums l := by
  simp only [nums, List.mem_flatMap]
  refine ⟨z, h, ?_⟩
  unfold numsZ; split <;> simp
theorem nw_mem {l : List Zn} {z : Zn} (h : z ∈ l) (hp : z.pend = 1) : z.nw ∈ nums l := by
  simp only [nums, List.mem_flatMap]
  refine ⟨z, h, ?_⟩
  simp [numsZ, hp]
theorem nums_length (l : List Zn) : (nums l).length = l.length + pendN 1 l := by
  induction l with
  | nil => rfl
  | cons z r ih =>
    rw [nums_cons, List.length_append, ih]
    unfold numsZ pendN
    by_cases h : z.pend = 1
    · simp [h]; omega
    · simp [h]; omega
/-- Two zones that are to be one. -/
def Pair (a b : Zn) : Prop := a.pend = 2 ∧ b.pend = 2 ∧ a.nw = b.id ∧ b.nw = a.id ∧ a.owner = b.owner
/-- Zones that stand alone, and pairs. -/
inductive Pairs : List Zn → Prop
  | nil : Pairs []
  | one {z : Zn} {r : List Zn} : z.pend ≠ 2 → Pairs r → Pairs (z :: r)
  | two {a b : Zn} {r : List Zn} : Pair a b → Pairs r → Pairs (a :: b :: r)
theorem Pairs.append {l r : List Zn} (h : Pairs l) (k : Pairs r) : Pairs (l ++ r) := by
  induction h with
  | nil => exact k
  | one hz _ ih => exact .one hz ih
  | two hp _ ih => exact .two hp ih
theorem Pairs.part {A B : List Zn} {z : Zn} (h : Pairs (A ++ z :: B)) (hz : z.pend ≠ 2) : Pairs A ∧ Pairs B := by
  generalize hl : A ++ z :: B = l at h
  induction h generalizing A with
  | nil => simp at hl
  | @one y r hy hr ih =>
    cases A with
    | nil => simp only [List.nil_append, List.cons.injEq] at hl; obtain ⟨rfl, rfl⟩ := hl; exact ⟨.nil, hr⟩
    | cons a A =>
      simp only [List.cons_append, List.cons.injEq] at hl
      obtain ⟨rfl, hl⟩ := hl
      obtain ⟨h1, h2⟩ := ih hl
      exact ⟨.one hy h1, h2⟩
  | @two a b r hp hr ih =>
    cases A with
    | nil => simp only [List.nil_append, List.cons.injEq] at hl; obtain ⟨rfl, -⟩ := hl; exact absurd hp.1 hz
    | cons a' A =>
      simp only [List.cons_append, List.cons.injEq] at hl
      obtain ⟨rfl, hl⟩ := hl
      cases A with
      | nil => simp only [List.nil_append, List.cons.injEq] at hl; obtain ⟨rfl, -⟩ := hl; exact absurd hp.2.1 hz
      | cons b' A =>
        simp only [List.cons_append, List.cons.injEq] at hl
        obtain ⟨rfl, hl⟩ := hl
        obtain ⟨h1, h2⟩ := ih hl
        exact ⟨.two hp h1, h2⟩
/-- A zone of a merge: its partner stands behind it or ahead of it. -/
theorem Pairs.mate {A B : List Zn} {z : Zn} (h : Pairs (A ++ z :: B)) (hz : z.pend = 2) : (∃ b R, B = b :: R ∧ Pair z b ∧ Pairs A ∧ Pairs R) ∨ (∃ Q a, A = Q ++ [a] ∧ Pair a z ∧ Pairs Q ∧ Pairs B) := by
  generalize hl : A ++ z :: B = l at h
  induction h generalizing A with
  | nil => simp at hl
  | @one y r hy hr ih =>
    cases A with
    | nil => simp only [List.nil_append, List.cons.injEq] at hl; obtain ⟨rfl, rfl⟩ := hl; exact absurd hz hy
    | cons a A =>
      simp only [List.cons_append, List.cons.injEq] at hl
      obtain ⟨rfl, hl⟩ := hl
      rcases ih hl with ⟨b, R, e, h1, h2, h3⟩ | ⟨Q, a', e, h1, h2, h3⟩
      · exact .inl ⟨b, R, e, h1, .one hy h2, h3⟩
      · exact .inr ⟨a :: Q, a', by rw [e]; rfl, h1, .one hy h2, h3⟩
  | @two a b r hp hr ih =>
    cases A with
    | nil =>
      simp only [List.nil_append, List.cons.injEq] at hl
      obtain ⟨rfl, rfl⟩ := hl
      exact .inl ⟨b, r, rfl, hp, .nil, hr⟩
    | cons a' A =>
      simp only [List.cons_append, List.cons.injEq] at hl
      obtain ⟨rfl, hl⟩ := hl
      cases A with
      | nil =>
        simp only [List.nil_append, List.cons.injEq] at hl
        obtain ⟨rfl, rfl⟩ := hl
        exact .inr ⟨[], a', rfl, hp, .nil, hr⟩
      | cons b' A =>
        simp only [List.cons_append, List.cons.injEq] at hl
        obtain ⟨rfl, hl⟩ := hl
        rcases ih hl with ⟨b, R, e, h1, h2, h3⟩ | ⟨Q, a, e, h1, h2, h3⟩
        · exact .inl ⟨b, R, e, h1, .two hp h2, h3⟩
        · exact .inr ⟨a' :: b' :: Q, a, by rw [e]; rfl, h1, .two hp h2, h3⟩
/-- What a zone by itself is. -/
def ZOk (z : Zn) : Prop := 1 ≤ z.owner ∧ z.owner ≤ 1048576 ∧ 1 ≤ z.epoch ∧ z.epoch ≤ 1099511627776 ∧
  ((z.pend = 0 ∧ z.tt = 0 ∧ z.key = z0 ∧ z.nw = 0) ∨ (z.pend = 3 ∧ 1 ≤ z.tt ∧ z.tt ≤ 1048576 ∧ z.tt ≠ z.owner ∧ z.key = z0 ∧ z.nw = 0) ∨ (z.pend = 1 ∧ z.tt = 0 ∧ cutOk z.fr z.to z.key = true) ∨ (z.pend = 2 ∧ z.tt = 0 ∧ z.key = z0))
/-- What holds of a directory's map. -/
structure Inv (m : Mp) : Prop where
  ver : 1 ≤ m.ver ∧ m.ver ≤ 1099511627776
  next : 1 ≤ m.next ∧ m.next ≤ 1099511627776
  nd : (nums m.zs).Nodup
  lt : ∀ n ∈ nums m.zs, 1 ≤ n ∧ n < m.next
  ok : ∀ z ∈ m.zs, ZOk z
  prs : Pairs m.zs
  chain : Chain [] (m.zs.map spz)
  room : (nums m.zs).length ≤ 16
  moves : pendN 3 m.zs ≤ 2
/-- What a change does to a map. -/
def splitM (m : Mp) (i : Nat) (z : Zn) (c : Ch) : Option Mp := if z.pend ≠ 0 ∨ cutOk z.fr z.to c.key = false ∨ 16 ≤ m.zs.length + pendN 1 m.zs ∨ 1099511627776 ≤ m.next then none else
  some ⟨m.ver, m.next + 1, m.zs.set i { z with pend := 1, key := c.key, nw := m.next }⟩
def mergeM (m : Mp) (i : Nat) (a : Zn) : Option Mp := match m.zs[i + 1]? with
  | none => none
  | some b => if a.pend ≠ 0 ∨ b.pend ≠ 0 ∨ a.owner ≠ b.owner then none else some { m with zs := (m.zs.set i { a with pend := 2, nw := b.id }).set (i + 1) { b with pend := 2, nw := a.id } }
def moveM (hosts : List Int) (m : Mp) (i : Nat) (z : Zn) (c : Ch) : Option Mp := if z.pend ≠ 0 ∨ c.tt ∉ hosts ∨ c.tt = z.owner ∨ 2 ≤ pendN 3 m.zs then none else some { m with zs := m.zs.set i { z with pend := 3, tt := c.tt } }
def joinZ (z o : Zn) : Zn := { endedZ z (max z.epoch o.epoch + 1) with fr := sel (joinOk z.fr z.to o.fr o.to) z.fr, to := sel (joinOk z.fr z.to o.fr o.to) o.to }
def doneM (m : Mp) (i : Nat) (z : Zn) (c : Ch) : Option Mp := if z.epoch ≠ c.epoch ∨ 1099511627776 ≤ z.epoch then none else
  if z.pend = 1 then some { m with zs := m.zs.take i ++ { endedZ z (z.epoch + 1) with to := z.key } :: { endedZ z (z.epoch + 1) with fr := z.key, id := z.nw } :: m.zs.drop (i + 1) }
  else if z.pend = 2 then (match m.zs[i + 1]? with
    | none => none
    | some o => if o.id ≠ z.nw ∨ 1099511627776 ≤ max z.epoch o.epoch then none else some { m with zs := m.zs.take i ++ joinZ z o :: m.zs.drop (i + 2) })
  else if z.pend = 3 then some { m with zs := m.zs.set i { endedZ z (z.epoch + 1) with owner := z.tt } }
  else none
def abortM (m : Mp) (i : Nat) (z : Zn) (c : Ch) : Option Mp := if z.pend ≠ 3 ∨ z.epoch ≠ c.epoch ∨ 1099511627776 ≤ z.epoch then none else some { m with zs := m.zs.set i (endedZ z (z.epoch + 1)) }
def changeM (hosts : List Int) (m : Mp) (i : Nat) (z : Zn) (c : Ch) : Option Mp :=
  if c.kind = 1 then splitM m i z c else if c.kind = 2 then mergeM m i z else if c.kind = 3 then moveM hosts m i z c else if c.kind = 4 then doneM m i z c else abortM m i z c
def applyM (hosts : List Int) (m : Mp) (c : Ch) : Option Mp := if mayC c = true ∧ m.ver < 1099511627776 then
    (match findZ m.zs c.zone with
    | none => none
    | some i => match m.zs[i]? with
      | none => none
      | some z => (changeM hosts m i z c).map fun x => { x with ver := x.ver + 1 })
  else none
theorem cut_at {l : List Zn} {i : Nat} {z : Zn} (h : l[i]? = some z) : ∃ A B, l = A ++ z :: B ∧ A.length = i := by
  obtain ⟨hi, rfl⟩ := List.getElem?_eq_some_iff.1 h
  exact ⟨l.take i, l.drop (i + 1), by rw [← List.drop_eq_getElem_cons hi, List.take_append_drop], by rw [List.length_take]; omega⟩
theorem set_at {A B : List Zn} {z x : Zn} : (A ++ z :: B).set A.length x = A ++ x :: B := by simp
theorem chain_swap {f : List UInt8} {A B L M : List Sp} (h : Chain f (A ++ L ++ B)) (hL : L ≠ []) (hM : ∀ g R, Chain g (L ++ R) → Chain g (M ++ R)) : Chain f (A ++ M ++ B) := by
  induction A generalizing f with
  | nil => exact hM f B h
  | cons s r ih =>
    obtain ⟨h1, h2, h3⟩ := h
    refine ⟨h1, h2, ?_⟩
    rcases h3 with ⟨h3, -⟩ | ⟨h3, h4⟩
    · exfalso; cases L with
      | nil => exact hL rfl
      | cons a L => simp at h3
    · exact .inr ⟨h3, ih h4⟩
theorem pendN_append (k : Int) (a b : List Zn) : pendN k (a ++ b) = pendN k a + pendN k b := by simp [pendN]
theorem pendN_cons (k : Int) (z : Zn) (b : List Zn) : pendN k (z :: b) = (if z.pend = k then 1 else 0) + pendN k b := by
  unfold pendN
  by_cases h : z.pend = k
  · simp [h]; omega
  · simp [h]
section
variable {ver next : Int} {A B : List Zn} {z x : Zn}
theorem Inv.mk' {l : List Zn} (h : Inv ⟨ver, next, l⟩) : Inv ⟨ver, next, l⟩ := h
/-- One zone is turned; it and its like stay alone. -/
theorem Inv.turn {next' : Int} (h : Inv ⟨ver, next, A ++ z :: B⟩) (hx : ZOk x) (hs : spz x = spz z) (hp : z.pend ≠ 2 ∧ x.pend ≠ 2) (hn : next ≤ next' ∧ next' ≤ 1099511627776)
    (hnd : (nums (A ++ x :: B)).Nodup) (hlt : ∀ n ∈ numsZ x, 1 ≤ n ∧ n < next') (hroom : (nums (A ++ x :: B)).length ≤ 16) (hmv : pendN 3 (A ++ x :: B) ≤ 2) : Inv ⟨ver, next', A ++ x :: B⟩ := by
  obtain ⟨h1, h2, h3, h4, h5, h6, h7, h8, h9⟩ := h
  simp only at *
  refine ⟨h1, ⟨by simp only; omega, hn.2⟩, hnd, ?_, ?_, ?_, ?_, hroom, hmv⟩
  · intro n hm
    rw [nums_append, nums_cons, List.mem_append, List.mem_append] at hm
    rcases hm with hm | hm | hm
    · have := h4 n (by rw [nums_append]; simp [hm]); simp only; omega
    · exact hlt n hm
    · have := h4 n (by rw [nums_append, nums_cons]; simp [hm]); simp only; omega
  · intro y hy
    rw [List.mem_append, List.mem_cons] at hy
    rcases hy with hy | rfl | hy
    · exact h5 y (by simp [hy])
    · exact hx
    · exact h5 y (by simp [hy])
  · obtain ⟨p1, p2⟩ := h6.part hp.1
    exact p1.append (.one hp.2 p2)
  · simp only [List.map_append, List.map_cons, hs] at h7 ⊢
    exact h7
end
theorem numsZ_of {z : Zn} (h : z.pend ≠ 1) : numsZ z = [z.id] := by unfold numsZ; rw [if_neg h]
theorem numsZ_split {z : Zn} (h : z.pend = 1) : numsZ z = [z.id, z.nw] := by unfold numsZ; rw [if_pos h]
/-- Turned zones of the same numbers. -/
theorem Inv.same {ver next : Int} {A B : List Zn} {z x : Zn} (h : Inv ⟨ver, next, A ++ z :: B⟩) (hx : ZOk x) (hs : spz x = spz z) (hp : z.pend ≠ 2 ∧ x.pend ≠ 2) (hn : numsZ x = numsZ z) (hmv : pendN 3 (A ++ x :: B) ≤ 2) : Inv ⟨ver, next, A ++ x :: B⟩ := by
  have e : nums (A ++ x :: B) = nums (A ++ z :: B) := by rw [nums_append, nums_append, nums_cons, nums_cons, hn]
  refine h.turn hx hs hp ⟨Int.le_refl _, h.next.2⟩ (by rw [e]; exact h.nd) ?_ (by rw [e]; exact h.room) hmv
  intro n hm
  rw [hn] at hm
  exact h.lt n (by simp only; rw [nums_append, nums_cons]; simp [hm])
theorem split_inv {m m' : Mp} {i : Nat} {z : Zn} {c : Ch} (h : Inv m) (hi : m.zs[i]? = some z) (hm : splitM m i z c = some m') : Inv m' := by
  unfold splitM at hm
  split at hm
  · cases hm
  · rename_i hc
    simp only [not_or, Decidable.not_not] at hc
    obtain ⟨c1, c2, c3, c4⟩ := hc
    obtain ⟨A, B, hl, rfl⟩ := cut_at hi
    obtain ⟨ver, next, zs⟩ := m
    simp only at *
    subst hl
    rw [set_at] at hm
    simp only [Option.some.injEq] at hm
    subst hm
    have hzo := h.ok z (by simp)
    have hz0 : z.tt = 0 := by rcases hzo.2.2.2.2 with h | h | h | h <;> first | exact h.2.1 | omega
    have hnx := h.next
    have hzi := h.lt z.id (id_mem (by simp))
    have hnz : numsZ z = [z.id] := numsZ_of (by omega)
    have hnn : next ∉ nums (A ++ z :: B) := fun hm => by have := (h.lt _ hm).2; simp only at this; omega
    have e : ∀ x : Zn, x.pend = 1 → x.id = z.id → x.nw = next → (nums (A ++ x :: B)).Perm (next :: nums (A ++ z :: B)) := by
      intro x hx1 hx2 hx3
      rw [nums_append, nums_append, nums_cons, nums_cons, hnz, numsZ_split hx1, hx2, hx3]
      simp only [List.cons_append, List.nil_append]
      have p1 : (nums A ++ z.id :: next :: nums B).Perm (next :: (nums A ++ z.id :: nums B)) := by
        have : nums A ++ z.id :: next :: nums B = (nums A ++ [z.id]) ++ next :: nums B := by simp
        rw [this]
        refine List.perm_middle.trans ?_
        simp
      exact p1
    have ep := e { z with pend := 1, key := c.key, nw := next } rfl rfl rfl
    refine h.turn (next' := next + 1) ?_ rfl ⟨by omega, show (1 : Int) ≠ 2 by decide⟩ ⟨by omega, by simp only at hnx; omega⟩ (ep.nodup_iff.2 (List.nodup_cons.2 ⟨hnn, h.nd⟩)) ?_ ?_ ?_
    · exact ⟨hzo.1, hzo.2.1, hzo.2.2.1, hzo.2.2.2.1, .inr (.inr (.inl ⟨rfl, hz0, by simpa using c2⟩))⟩
    · intro n hn
      rw [numsZ_split rfl] at hn
      simp only [List.mem_cons, List.not_mem_nil, or_false] at hn
      simp only at hzi hnx
      rcases hn with rfl | rfl <;> omega
    · rw [ep.length_eq, List.length_cons, nums_length]; omega
    · have := h.moves
      simp only [pendN_append, pendN_cons] at this ⊢
      first | omega | (simp; omega) | (simp [endedZ]; omega) | (simp [joinZ]; omega) | (simp [joinZ, endedZ]; omega)
theorem move_inv {hosts : List Int} (hh : ∀ n ∈ hosts, 1 ≤ n ∧ n ≤ 1048576) {m m' : Mp} {i : Nat} {z : Zn} {c : Ch} (h : Inv m) (hi : m.zs[i]? = some z) (hm : moveM hosts m i z c = some m') : Inv m' := by
  unfold moveM at hm
  split at hm
  · cases hm
  · rename_i hc
    simp only [not_or, Decidable.not_not] at hc
    obtain ⟨c1, c2, c3, c4⟩ := hc
    obtain ⟨A, B, hl, rfl⟩ := cut_at hi
    obtain ⟨ver, next, zs⟩ := m
    simp only at *
    subst hl
    rw [set_at] at hm
    simp only [Option.some.injEq] at hm
    subst hm
    have hzo := h.ok z (by simp)
    have hz0 : z.key = z0 ∧ z.nw = 0 := by
      rcases hzo.2.2.2.2 with h | h | h | h
      · exact h.2.2
      · omega
      · omega
      · omega
    refine h.same ⟨hzo.1, hzo.2.1, hzo.2.2.1, hzo.2.2.2.1, .inr (.inl ⟨rfl, (hh _ c2).1, (hh _ c2).2, c3, hz0.1, hz0.2⟩)⟩ rfl ⟨by omega, show (3 : Int) ≠ 2 by decide⟩ ?_ ?_
    · rw [numsZ_of (z := z) (by omega)]; rfl
    · simp only [pendN_append, pendN_cons] at c4 ⊢
      rw [if_neg (by omega)] at c4
      simp only [if_true]
      omega
theorem ended_ok {z : Zn} (h : ZOk z) {e : Int} (h1 : 1 ≤ e) (h2 : e ≤ 1099511627776) : ZOk (endedZ z e) := ⟨h.1, h.2.1, h1, h2, .inl ⟨rfl, rfl, rfl, rfl⟩⟩
theorem abort_inv {m m' : Mp} {i : Nat} {z : Zn} {c : Ch} (h : Inv m) (hi : m.zs[i]? = some z) (hm : abortM m i z c = some m') : Inv m' := by
  unfold abortM at hm
  split at hm
  · cases hm
  · rename_i hc
    simp only [not_or, Decidable.not_not] at hc
    obtain ⟨c1, c2, c3⟩ := hc
    obtain ⟨A, B, hl, rfl⟩ := cut_at hi
    obtain ⟨ver, next, zs⟩ := m
    simp only at *
    subst hl
    rw [set_at] at hm
    simp only [Option.some.injEq] at hm
    subst hm
    have hzo := h.ok z (by simp)
    have he := hzo.2.2.1
    refine h.same (ended_ok hzo (by omega) (by omega)) rfl ⟨by omega, by simp [endedZ]⟩ ?_ ?_
    · rw [numsZ_of (z := z) (by omega)]; rfl
    · have := h.moves
      simp only [pendN_append, pendN_cons] at this ⊢
      first | omega | (simp; omega) | (simp [endedZ]; omega) | (simp [joinZ]; omega) | (simp [joinZ, endedZ]; omega)
theorem merge_inv {m m' : Mp} {i : Nat} {a : Zn} (h : Inv m) (hi : m.zs[i]? = some a) (hm : mergeM m i a = some m') : Inv m' := by
  unfold mergeM at hm
  cases hb : m.zs[i + 1]? with
  | none => rw [hb] at hm; cases hm
  | some b =>
    rw [hb] at hm
    simp only at hm
    split at hm
    · cases hm
    · rename_i hc
      simp only [not_or, Decidable.not_not] at hc
      obtain ⟨c1, c2, c3⟩ := hc
      obtain ⟨A, B, hl, rfl⟩ := cut_at hi
      obtain ⟨ver, next, zs⟩ := m
      simp only at *
      subst hl
      obtain ⟨R, rfl⟩ : ∃ R, B = b :: R := by
        rw [List.getElem?_append_right (by omega)] at hb
        simp only [show A.length + 1 - A.length = 1 by omega, List.getElem?_cons_succ] at hb
        cases B with
        | nil => simp at hb
        | cons y R => simp at hb; exact ⟨R, by rw [hb]⟩
      rw [set_at, show A.length + 1 = (A ++ [{ a with pend := 2, nw := b.id }]).length by simp, show A ++ { a with pend := 2, nw := b.id } :: b :: R = (A ++ [{ a with pend := 2, nw := b.id }]) ++ b :: R by simp, set_at] at hm
      simp only [Option.some.injEq, List.append_assoc, List.cons_append, List.nil_append] at hm
      subst hm
      have hzo := h.ok a (by simp)
      have hyo := h.ok b (by simp)
      have ha0 : a.tt = 0 ∧ a.key = z0 := by rcases hzo.2.2.2.2 with h | h | h | h <;> first | exact ⟨h.2.1, h.2.2.1⟩ | omega
      have hb0 : b.tt = 0 ∧ b.key = z0 := by rcases hyo.2.2.2.2 with h | h | h | h <;> first | exact ⟨h.2.1, h.2.2.1⟩ | omega
      have e : nums (A ++ { a with pend := 2, nw := b.id } :: { b with pend := 2, nw := a.id } :: R) = nums (A ++ a :: b :: R) := by
        simp only [nums_append, nums_cons]
        rw [numsZ_of (z := a) (by omega), numsZ_of (z := b) (by omega)]
        rfl
      obtain ⟨h1, h2, h3, h4, h5, h6, h7, h8, h9⟩ := h
      simp only at *
      refine ⟨h1, h2, by rw [e]; exact h3, by rw [e]; exact h4, ?_, ?_, ?_, by rw [e]; exact h8, ?_⟩
      · intro y hy
        rw [List.mem_append, List.mem_cons, List.mem_cons] at hy
        rcases hy with hy | rfl | rfl | hy
        · exact h5 y (by simp [hy])
        · exact ⟨hzo.1, hzo.2.1, hzo.2.2.1, hzo.2.2.2.1, .inr (.inr (.inr ⟨rfl, ha0⟩))⟩
        · exact ⟨hyo.1, hyo.2.1, hyo.2.2.1, hyo.2.2.2.1, .inr (.inr (.inr ⟨rfl, hb0⟩))⟩
        · exact h5 y (by simp [hy])
      · obtain ⟨p1, p2⟩ := h6.part (by omega)
        have p3 : Pairs R := (Pairs.part (A := []) p2 (by omega)).2
        exact p1.append (.two ⟨rfl, rfl, rfl, rfl, c3⟩ p3)
      · simp only [List.map_append, List.map_cons] at h7 ⊢
        exact h7
      · simp only [pendN_append, pendN_cons] at h9 ⊢
        first | omega | (simp; omega) | (simp [endedZ]; omega) | (simp [joinZ]; omega) | (simp [joinZ, endedZ]; omega)
theorem cut_two {g : List UInt8} {f t k : ByteArray} {R : List Sp} (hc : cutOk f t k = true) (h : Chain g ([(f, t)] ++ R)) : Chain g ([(f, k), (k, t)] ++ R) := by
  have := chain_cut (k := 0) (x := k) h (by simp) hc
  simpa using this
theorem done_inv {m m' : Mp} {i : Nat} {z : Zn} {c : Ch} (h : Inv m) (hi : m.zs[i]? = some z) (hm : doneM m i z c = some m') : Inv m' := by
  unfold doneM at hm
  split at hm
  · cases hm
  · rename_i hc
    simp only [not_or, Decidable.not_not] at hc
    obtain ⟨-, c3⟩ := hc
    obtain ⟨A, B, hl, rfl⟩ := cut_at hi
    obtain ⟨ver, next, zs⟩ := m
    simp only at *
    subst hl
    have hzo := h.ok z (by simp)
    have he := hzo.2.2.1
    split at hm
    · rename_i hp
      simp only [Option.some.injEq] at hm
      rw [List.take_left, List.drop_append, List.drop_of_length_le (by omega), show A.length + 1 - A.length = 1 by omega] at hm
      simp only [List.nil_append, List.drop_succ_cons, List.drop_zero] at hm
      subst hm
      have hck : cutOk z.fr z.to z.key = true := by
        rcases hzo.2.2.2.2 with h | h | h | h
        · omega
        · omega
        · exact h.2.2
        · omega
      have e : nums (A ++ { endedZ z (z.epoch + 1) with to := z.key } :: { endedZ z (z.epoch + 1) with fr := z.key, id := z.nw } :: B) = nums (A ++ z :: B) := by
        simp only [nums_append, nums_cons]
        rw [numsZ_split hp]
        rfl
      obtain ⟨h1, h2, h3, h4, h5, h6, h7, h8, h9⟩ := h
      simp only at *
      refine ⟨h1, h2, by rw [e]; exact h3, by rw [e]; exact h4, ?_, ?_, ?_, by rw [e]; exact h8, ?_⟩
      · intro y hy
        rw [List.mem_append, List.mem_cons, List.mem_cons] at hy
        rcases hy with hy | rfl | rfl | hy
        · exact h5 y (by simp [hy])
        · exact ⟨hzo.1, hzo.2.1, by simp only [endedZ]; omega, by simp only [endedZ]; omega, .inl ⟨rfl, rfl, rfl, rfl⟩⟩
        · exact ⟨hzo.1, hzo.2.1, by simp only [endedZ]; omega, by simp only [endedZ]; omega, .inl ⟨rfl, rfl, rfl, rfl⟩⟩
        · exact h5 y (by simp [hy])
      · obtain ⟨p1, p2⟩ := h6.part (by omega)
        exact p1.append (.one (by simp [endedZ]) (.one (by simp [endedZ]) p2))
      · simp only [List.map_append, List.map_cons] at h7 ⊢
        have := chain_swap (A := A.map spz) (L := [spz z]) (M := [(z.fr, z.key), (z.key, z.to)]) (B := B.map spz) (by simpa using h7) (by simp) (fun g R hg => cut_two hck hg)
        simp only [List.append_assoc, List.cons_append, List.nil_append] at this
        exact this
      · simp only [pendN_append, pendN_cons] at h9 ⊢
        first | omega | (simp; omega) | (simp [endedZ]; omega) | (simp [joinZ]; omega) | (simp [joinZ, endedZ]; omega)
    · split at hm
      · rename_i hp1 hp
        rw [List.getElem?_append_right (by omega), show A.length + 1 - A.length = 1 by omega] at hm
        cases B with
        | nil => simp at hm
        | cons o R =>
          simp only [List.getElem?_cons_succ, List.getElem?_cons_zero] at hm
          split at hm
          · cases hm
          · rename_i hc2
            simp only [not_or, Decidable.not_not] at hc2
            obtain ⟨c4, c5⟩ := hc2
            rw [List.take_left, List.drop_append, List.drop_of_length_le (by omega), show A.length + 2 - A.length = 2 by omega] at hm
            simp only [List.nil_append, List.drop_succ_cons, List.drop_zero, Option.some.injEq] at hm
            subst hm
            obtain ⟨h1, h2, h3, h4, h5, h6, h7, h8, h9⟩ := h
            simp only at *
            have hps : Pairs A ∧ Pairs R ∧ o.pend = 2 := by
              rcases h6.mate hp with ⟨b, R', e, q1, q2, q3⟩ | ⟨Q, a, e, q1, q2, q3⟩
              · simp only [List.cons.injEq] at e
                obtain ⟨rfl, rfl⟩ := e
                exact ⟨q2, q3, q1.2.1⟩
              · exfalso
                have e1 : a.id = o.id := by rw [← q1.2.2.2.1, c4]
                subst e
                have hnd : (nums (Q ++ [a] ++ z :: o :: R)).Nodup := h3
                rw [nums_append, nums_append] at hnd
                have ha : a.id ∈ nums Q ++ nums [a] := by rw [← nums_append]; exact id_mem (by simp)
                have ho : o.id ∈ nums (z :: o :: R) := id_mem (by simp)
                exact (List.nodup_append.1 hnd).2.2 _ ha _ ho e1
            have hop := hps.2.2
            have hoo := h5 o (by simp)
            have e : nums (A ++ joinZ z o :: R) = nums A ++ z.id :: nums R := by
              simp only [nums_append, nums_cons]; rfl
            have e2 : nums (A ++ z :: o :: R) = nums A ++ z.id :: o.id :: nums R := by
              simp only [nums_append, nums_cons]
              rw [numsZ_of (z := z) (by omega), numsZ_of (z := o) (by omega)]
              rfl
            have hsub : (nums (A ++ joinZ z o :: R)).Sublist (nums (A ++ z :: o :: R)) := by
              rw [e, e2]
              exact List.Sublist.append (List.Sublist.refl _) (List.Sublist.cons_cons _ (List.sublist_cons_self _ _))
            have hj : joinOk z.fr z.to o.fr o.to = true := by
              have : ∀ (f : List UInt8) (A : List Sp) (s t : Sp) (R : List Sp), Chain f (A ++ s :: t :: R) → joinOk s.1 s.2 t.1 t.2 = true := by
                intro f A s t R hch
                induction A generalizing f with
                | nil =>
                  obtain ⟨-, i1, i2⟩ := hch
                  rcases i2 with ⟨i2, -⟩ | ⟨i2, i3, i4, -⟩
                  · cases i2
                  · rw [joinOk_iff]; exact ⟨i1, i4, i2, i3.symm⟩
                | cons y A ih =>
                  obtain ⟨-, -, i2⟩ := hch
                  rcases i2 with ⟨i2, -⟩ | ⟨-, i3⟩
                  · simp at i2
                  · exact ih _ i3
              refine this [] (A.map spz) (spz z) (spz o) (R.map spz) ?_
              simpa using h7
            refine ⟨h1, h2, h3.sublist hsub, fun n hn => h4 n (hsub.subset hn), ?_, ?_, ?_, Nat.le_trans hsub.length_le h8, ?_⟩
            · intro y hy
              rw [List.mem_append, List.mem_cons] at hy
              rcases hy with hy | rfl | hy
              · exact h5 y (by simp [hy])
              · have := hoo.2.2.1
                exact ⟨hzo.1, hzo.2.1, by simp only [joinZ, endedZ]; omega, by simp only [joinZ, endedZ]; omega, .inl ⟨rfl, rfl, rfl, rfl⟩⟩
              · exact h5 y (by simp [hy])
            · exact hps.1.append (.one (by simp [joinZ, endedZ]) hps.2.1)
            · have hj2 := (joinOk_iff _ _ _ _).1 hj
              have := chain_swap (A := A.map spz) (L := [spz z, spz o]) (M := [(z.fr, o.to)]) (B := R.map spz) (by simpa using h7) (by simp) (fun g R hg => by
                obtain ⟨i1, i2, i3⟩ := hg
                rcases i3 with ⟨i3, -⟩ | ⟨i3, i4, i5, i6⟩
                · cases i3
                · refine ⟨i1, ?_, i6⟩
                  rw [isB_iff] at i2 i5 ⊢
                  refine ⟨i2.1, i5.2.1, ?_⟩
                  rcases i5.2.2 with i7 | i7
                  · exact .inl i7
                  · rcases i2.2.2 with i8 | i8
                    · exact absurd i8 i3
                    · refine .inr (bl_trans i8 ?_)
                      have i4' : o.fr.toList = z.to.toList := i4
                      show Op.bytesLess z.to.toList _ = true
                      rw [← i4']
                      exact i7)
              simp only [List.map_append, List.map_cons]
              have e3 : spz (joinZ z o) = (z.fr, o.to) := by simp only [spz, joinZ, endedZ, hj, sel, if_true]
              rw [e3]
              simpa using this
            · simp only [pendN_append, pendN_cons] at h9 ⊢
              first | omega | (simp; omega) | (simp [endedZ]; omega) | (simp [joinZ]; omega) | (simp [joinZ, endedZ]; omega)
      · split at hm
        · rename_i hp1 hp2 hp
          rw [set_at] at hm
          simp only [Option.some.injEq] at hm
          subst hm
          have ht : 1 ≤ z.tt ∧ z.tt ≤ 1048576 := by
            rcases hzo.2.2.2.2 with h | h | h | h
            · omega
            · omega
            · omega
            · omega
          refine h.same ⟨ht.1, ht.2, by simp only [endedZ]; omega, by simp only [endedZ]; omega, .inl ⟨rfl, rfl, rfl, rfl⟩⟩ rfl ⟨by omega, by simp [endedZ]⟩ ?_ ?_
          · rw [numsZ_of (z := z) (by omega)]; rfl
          · have := h.moves
            simp only [pendN_append, pendN_cons] at this ⊢
            first | omega | (simp; omega) | (simp [endedZ]; omega) | (simp [joinZ]; omega) | (simp [joinZ, endedZ]; omega)
        · cases hm
theorem change_inv {hosts : List Int} (hh : ∀ n ∈ hosts, 1 ≤ n ∧ n ≤ 1048576) {m m' : Mp} {i : Nat} {z : Zn} {c : Ch} (h : Inv m) (hi : m.zs[i]? = some z) (hm : changeM hosts m i z c = some m') : Inv m' := by
  unfold changeM at hm
  split at hm
  · exact split_inv h hi hm
  · split at hm
    · exact merge_inv h hi hm
    · split at hm
      · exact move_inv hh h hi hm
      · split at hm
        · exact done_inv h hi hm
        · exact abort_inv h hi hm
theorem change_ver {hosts : List Int} {m m' : Mp} {i : Nat} {z : Zn} {c : Ch} (hm : changeM hosts m i z c = some m') : m'.ver = m.ver := by
  simp only [changeM, splitM, mergeM, moveM, doneM, abortM] at hm
  repeat' split at hm
  all_goals first | cases hm; done | (simp only [Option.some.injEq] at hm; subst hm; rfl)
theorem apply_inv {hosts : List Int} (hh : ∀ n ∈ hosts, 1 ≤ n ∧ n ≤ 1048576) {m m' : Mp} {c : Ch} (h : Inv m) (hm : applyM hosts m c = some m') : Inv m' := by
  unfold applyM at hm
  split at hm
  · rename_i hc
    cases hf : findZ m.zs c.zone with
    | none => rw [hf] at hm; cases hm
    | some i =>
      rw [hf] at hm
      simp only at hm
      cases hi : m.zs[i]? with
      | none => rw [hi] at hm; cases hm
      | some z =>
        rw [hi] at hm
        simp only [Option.map_eq_some_iff] at hm
        obtain ⟨x, hx, rfl⟩ := hm
        have hv := change_ver hx
        obtain ⟨h1, h2, h3, h4, h5, h6, h7, h8, h9⟩ := change_inv hh h hi hx
        exact ⟨by simp only; omega, h2, h3, h4, h5, h6, h7, h8, h9⟩
  · cases hm
end Go.Proofs.Ytobnibdeimiinaa
