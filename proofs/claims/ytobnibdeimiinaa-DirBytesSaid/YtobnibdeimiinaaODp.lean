/- What is read of a map, named; how much is left. -/
import Derived.Test.YtobnibdeimiinaaOEn
import Derived.Test.YtobnibdeimiinaaOc
namespace Go.Proofs.Ytobnibdeimiinaa.O
open Go.RowKit
set_option maxRecDepth 20000

/-- What a zone's reading gives, named. -/
structure ZIs (r : List UInt8) (b : Bool) (zid : Nat) (fr to : List UInt8) (owner epoch pend tt : Nat) (key : List UInt8) (nw : Nat) (r1 : List UInt8) (b1 : Bool) (r2 : List UInt8) (b2 : Bool) (r3 : List UInt8) (b3 : Bool) (r4 : List UInt8) (b4 : Bool) (r5 : List UInt8) (b5 : Bool) (r6 : List UInt8) (b6 : Bool) : Prop where
  e1 : numT r b = (zid, r1, b1)
  e2 : tookOf r1 b1 = (fr, r2, b2)
  e3 : tookOf r2 b2 = (to, r3, b3)
  v0 : owner = rdVal r3 b3 0
  v1 : epoch = rdVal r3 b3 1
  v2 : pend = rdVal r3 b3 2
  v3 : tt = rdVal r3 b3 3
  e4 : rdSt r3 b3 4 = (r4, b4)
  e5 : tookOf r4 b4 = (key, r5, b5)
  e6 : numT r5 b5 = (nw, r6, b6)
  l1 : r1.length ≤ r.length
  l2 : r2.length ≤ r.length
  l3 : r3.length ≤ r.length
  l4 : r4.length ≤ r.length
  l5 : r5.length ≤ r.length
  l6 : r6.length ≤ r.length
  k1 : fr.length ≤ r.length
  k2 : to.length ≤ r.length
  k3 : key.length ≤ r.length
  nb : nw ≤ 4611686018427387904
  rd : rdZ (r, b) = ⟨zid, txt fr, txt to, owner, epoch, pend, tt, txt key, nw⟩
  st : s6 (r, b) = (r6, b6)
theorem eta3 {α β γ : Type} (t : α × β × γ) : t = (t.1, t.2.1, t.2.2) := rfl
theorem took_len {r x r' : List UInt8} {b b' : Bool} (h : tookOf r b = (x, r', b')) : x.length ≤ r.length ∧ r'.length ≤ r.length := tookOf_le h.symm
theorem zis (r : List UInt8) (b : Bool) : ∃ zid fr to owner epoch pend tt key nw r1 b1 r2 b2 r3 b3 r4 b4 r5 b5 r6 b6, ZIs r b zid fr to owner epoch pend tt key nw r1 b1 r2 b2 r3 b3 r4 b4 r5 b5 r6 b6 := by
  obtain ⟨zid, r1, b1, e1⟩ : ∃ n x y, numT r b = (n, x, y) := ⟨_, _, _, eta3 _⟩
  obtain ⟨fr, r2, b2, e2⟩ : ∃ n x y, tookOf r1 b1 = (n, x, y) := ⟨_, _, _, eta3 _⟩
  obtain ⟨to, r3, b3, e3⟩ : ∃ n x y, tookOf r2 b2 = (n, x, y) := ⟨_, _, _, eta3 _⟩
  obtain ⟨r4, b4, e4⟩ : ∃ x y, rdSt r3 b3 4 = (x, y) := ⟨_, _, rfl⟩
  obtain ⟨key, r5, b5, e5⟩ : ∃ n x y, tookOf r4 b4 = (n, x, y) := ⟨_, _, _, eta3 _⟩
  obtain ⟨nw, r6, b6, e6⟩ : ∃ n x y, numT r5 b5 = (n, x, y) := ⟨_, _, _, eta3 _⟩
  have h1 : rdVal r b 0 = zid := by unfold rdVal; rw [rz]; dsimp only; rw [e1]
  have h1s : rdSt r b 1 = (r1, b1) := by
    have := rd_step r b 0 1 rfl
    rw [rz] at this
    dsimp only at this
    rw [e1] at this
    simp only [Prod.mk.injEq] at this
    rw [← Prod.eta (rdSt r b 1), ← this.2.1, ← this.2.2]
  have h6 : rdVal r5 b5 0 = nw := by unfold rdVal; rw [rz]; dsimp only; rw [e6]
  have h6s : rdSt r5 b5 1 = (r6, b6) := by
    have := rd_step r5 b5 0 1 rfl
    rw [rz] at this
    dsimp only at this
    rw [e6] at this
    simp only [Prod.mk.injEq] at this
    rw [← Prod.eta (rdSt r5 b5 1), ← this.2.1, ← this.2.2]
  have a2 : t2 (r, b) = (fr, r2, b2) := by unfold t2 s1; dsimp only; rw [h1s]; exact e2
  have a3 : t3 (r, b) = (to, r3, b3) := by unfold t3; rw [a2]; exact e3
  have a4 : s4 (r, b) = (r4, b4) := by unfold s4; rw [a3]; exact e4
  have a5 : t5 (r, b) = (key, r5, b5) := by unfold t5; rw [a4]; exact e5
  have a6 : s6 (r, b) = (r6, b6) := by unfold s6; rw [a5]; exact h6s
  have l1 : r1.length ≤ r.length := by have := (numT_le r b).1; rw [e1] at this; exact this
  obtain ⟨k2, l2⟩ := took_len e2
  obtain ⟨k3, l3⟩ := took_len e3
  have l4 : r4.length ≤ r3.length := by have := rdSt_le r3 b3 4; rw [e4] at this; exact this
  obtain ⟨k5, l5⟩ := took_len e5
  have l6 : r6.length ≤ r5.length := by have := (numT_le r5 b5).1; rw [e6] at this; exact this
  have nb : nw ≤ 4611686018427387904 := by rw [← h6]; exact rdVal_le _ _ _
  have hrd : rdZ (r, b) = ⟨zid, txt fr, txt to, rdVal r3 b3 0, rdVal r3 b3 1, rdVal r3 b3 2, rdVal r3 b3 3, txt key, nw⟩ := by
    unfold rdZ
    rw [a2, a3, a5]
    dsimp only
    rw [h1, h6]
  exact ⟨zid, fr, to, rdVal r3 b3 0, rdVal r3 b3 1, rdVal r3 b3 2, rdVal r3 b3 3, key, nw, r1, b1, r2, b2, r3, b3, r4, b4, r5, b5, r6, b6, ⟨e1, e2, e3, rfl, rfl, rfl, rfl, e4, e5, e6, l1, by omega, by omega, by omega, by omega, by omega, by omega, by omega, by omega, nb, hrd, a6⟩⟩
theorem txt_size (l : List UInt8) : (txt l).size = l.length := by simp [txt, ByteArray.size]
theorem encS_pos (s : ByteArray) : 1 ≤ (encS s).length := by
  have := (encN_length s.data.toList.length).2
  simp only [encS, encRow, List.length_append]
  omega
theorem encZ_pos (z : Zn) : 9 ≤ (encZ z).length := by
  have h1 := (encN_length (clampN z.id)).2
  have h2 := (encN_length (clampN z.owner)).2
  have h3 := (encN_length (clampN z.epoch)).2
  have h4 := (encN_length (clampN z.pend)).2
  have h5 := (encN_length (clampN z.tt)).2
  have h6 := (encN_length (clampN z.nw)).2
  have h7 := encS_pos z.fr
  have h8 := encS_pos z.to
  have h9 := encS_pos z.key
  unfold encZ
  simp only [encs_cons, encs_nil, List.append_nil, List.length_append]
  omega
theorem s6_less {s : Rs} (h : (s6 s).2 = false) : (s6 s).1.length + 9 ≤ s.1.length := by
  obtain ⟨-, h2⟩ := rdZ_back h
  have h1 := encZ_pos (rdZ s)
  have := congrArg List.length h2
  rw [List.length_append] at this
  omega
theorem news_ad (w : World) (n : Nat) (hn : n = w.heap.size) (cur : Array Value) (t : TypeId) : ∀ ad, (some ⟨n, 0, none⟩ : Option Addr) = some ad → ∀ (j : Nat) u, cur.toList[j]? = some u → (w.alloc (.cells cur t)).cell? (ad.add j) = some u := by
  subst hn
  intro ad e j u hu
  obtain rfl := Option.some.inj e
  rw [add_none, Nat.zero_add, (cells_of_obj (heap_new w _)).1]
  simpa using hu
def zz9 : Array Value := #[.int .i64 0, .string ⟨#[]⟩, .string ⟨#[]⟩, .int .i64 0, .int .i64 0, .int .i64 0, .int .i64 0, .string ⟨#[]⟩, .int .i64 0]
theorem zoneInfoO : (Try.prog.info? 39).map (fun i => (i.zero, i.size, i.bytes)) = some (some (.agg zz9), 9, 96) := by kernel_rfl
/-- How far the reading of zones has come. -/
structure RdI (l : List UInt8) (j : Nat) (L : List Zn) (r : List UInt8) (b : Bool) : Prop where
  all : rdZs (rdVal l false 2) (rdSt l false 3) = (L ++ (rdZs j (r, b)).1, (rdZs j (r, b)).2)
  good : b = false → 9 * L.length + r.length ≤ l.length
  len : 9 * L.length ≤ l.length + 9
  left : r.length ≤ l.length
  sz : ∀ z ∈ L, z.fr.size ≤ l.length ∧ z.to.size ≤ l.length ∧ z.key.size ≤ l.length ∧ 0 ≤ z.nw ∧ z.nw ≤ 4611686018427387904
theorem rdZs_succ (k : Nat) (s : Rs) : rdZs (k + 1) s = if s.2 = true then ([], s) else (rdZ s :: (rdZs k (s6 s)).1, (rdZs k (s6 s)).2) := rfl
theorem RdI.start (l : List UInt8) : RdI l (rdVal l false 2) [] (rdSt l false 3).1 (rdSt l false 3).2 :=
  ⟨rfl, fun _ => by simpa using rdSt_le l false 3, by simp, rdSt_le l false 3, fun _ h => by simp at h⟩
theorem RdI.next {l : List UInt8} {j : Nat} {L : List Zn} {r : List UInt8} (h : RdI l (j + 1) L r false) {zid : Nat} {fr to : List UInt8} {owner epoch pend tt : Nat} {key : List UInt8} {nw : Nat} {r1 : List UInt8} {b1 : Bool} {r2 : List UInt8} {b2 : Bool} {r3 : List UInt8} {b3 : Bool} {r4 : List UInt8} {b4 : Bool} {r5 : List UInt8} {b5 : Bool} {r6 : List UInt8} {b6 : Bool}
    (z : ZIs r false zid fr to owner epoch pend tt key nw r1 b1 r2 b2 r3 b3 r4 b4 r5 b5 r6 b6) : RdI l j (L ++ [⟨zid, txt fr, txt to, owner, epoch, pend, tt, txt key, nw⟩]) r6 b6 := by
  have hg := h.good rfl
  refine ⟨?_, fun hb => ?_, by simp; omega, Nat.le_trans z.l6 h.left, fun y hy => ?_⟩
  · rw [h.all]
    have : rdZs (j + 1) (r, false) = (rdZ (r, false) :: (rdZs j (s6 (r, false))).1, (rdZs j (s6 (r, false))).2) := by
      rw [rdZs_succ, if_neg (by simp)]
    rw [this, z.rd, z.st]
    simp
  · have h6 : (s6 (r, false)).2 = false := by rw [z.st]; exact hb
    have := s6_less h6
    rw [z.st] at this
    simp only [List.length_append, List.length_cons, List.length_nil] at this ⊢
    omega
  · rcases List.mem_append.1 hy with hy | hy
    · exact h.sz y hy
    · obtain rfl := List.mem_singleton.1 hy
      simp only [txt_size]
      have := z.k1; have := z.k2; have := z.k3; have := z.nb; have := h.left
      omega
theorem RdI.done {l : List UInt8} {j : Nat} {L : List Zn} {r : List UInt8} {b : Bool} (h : RdI l j L r b) (he : j = 0 ∨ b = true) : decM l = (⟨rdVal l false 0, rdVal l false 1, L⟩, r, b) := by
  have e : rdZs j (r, b) = ([], r, b) := by
    rcases he with rfl | rfl
    · rfl
    · cases j with
      | zero => rfl
      | succ j => rw [rdZs_succ, if_pos rfl]
  unfold decM
  rw [h.all, e]
  simp
end Go.Proofs.Ytobnibdeimiinaa.O
