/- PieceAll: pieces that are lost, doubled, late, told again and again, in the end are all bytes. -/
import Derived.Test.YtclbplodbmldpaaPcPlay
import Derived.Test.YtclbplodbmldpaaRows
namespace Go.Proofs.Ytclbplodbmldpaa
open Go.RowKit

theorem St.merge {W w w' : World} {t u : Th} {L : List Th} (h : St W w (t :: u :: L)) (k : Keeps w w' t.F) (t' : Th) (ht : t'.T w') (hF : ∀ x, t'.F x → t.F x ∨ u.F x ∨ w.heap.size ≤ x) : St W w' (t' :: L) := by
  have h2 := (h.pull (A := [t])).drop
  refine ⟨h.b.trans (k.below (fun x hx => h.t.2.1 x hx) h.b.size), ht, fun x hx => ?_, fun v hv x hx hvx => ?_, h.t.2.2.2.2.2.2.keep k (fun v hv x hx hs => h.t.2.2.1 v (by simp [hv]) x hs hx)⟩
  · rcases hF x hx with h1 | h1 | h1
    · exact h.t.2.1 x h1
    · exact h.t.2.2.2.2.1 x h1
    · exact Nat.le_trans h.b.size h1
  · rcases hF x hx with h1 | h1 | h1
    · exact h.t.2.2.1 v (by simp [hv]) x h1 hvx
    · exact h.t.2.2.2.2.2.1 v hv x h1 hvx
    · have := (h.t.2.2.2.2.2.2.lts v hv x hvx).1; omega
theorem St.took {W w w' : World} {L : List Th} {p : Nat} {l l' : List UInt8} {size : Int} {o o' : Option Nat} (h : St W w (thIn p W.heap.size l size o :: L)) (hi : InAt w' p W.heap.size l' size o') (hf : ∀ g, o' = some g → o = some g ∨ w.heap.size ≤ g) (k : Keeps w w' (Foot p o)) : St W w' (thIn p W.heap.size l' size o' :: L) :=
  h.step k _ hi (fun x hx => by
    rcases hx with hx | hx
    · exact .inl (.inl hx)
    · rcases hf x hx with h1 | h1
      · exact .inl (.inr h1)
      · exact .inr h1)
theorem St.acked {W w w' : World} {L : List Th} {p g k k' : Nat} {l : List UInt8} (h : St W w (thOut p g l k :: L)) (hs : SAt w' p g 55 l k') (kp : Keeps w w' (fun x => x = p)) : St W w' (thOut p g l k' :: L) :=
  h.step (kp.weak (fun _ _ h => .inl h)) _ hs (fun _ hx => .inl hx)
/-- Where the play stands in the k-th round. -/
structure Play (N F k t m : Nat) : Prop where
  tm : t ≤ m
  mN : m ≤ N
  run : F + 1 ≤ k → t = m ∧ (512 * (k - F - 1) ≤ m ∨ m = N)
theorem play_end {N F t m : Nat} (h : Play N F (F + N / 512 + 3) t m) : t = N ∧ m = N := by
  obtain ⟨h1, h2⟩ := h.run (by omega)
  have := h.mN
  omega
theorem play_stay {N F k t m : Nat} (h : Play N F k t m) (hk : k < F) : Play N F (k + 1) t m := ⟨h.tm, h.mN, fun h1 => by omega⟩
theorem play_take {N F k : Nat} (hk : k < F) (t1 m1 : Nat) (h1 : t1 ≤ m1) (h2 : m1 ≤ N) : Play N F (k + 1) t1 m1 := ⟨h1, h2, fun h1 => by omega⟩
theorem play_run {N F k t m : Nat} (h : Play N F k t m) (m1 : Nat) (h1 : nextM N m t ≤ m1) (h2 : m1 ≤ N) : Play N F (k + 1) m1 m1 := by
  refine ⟨Nat.le_refl _, h2, fun hk => ⟨rfl, ?_⟩⟩
  by_cases hkF : F + 1 ≤ k
  · obtain ⟨rfl, h3⟩ := h.run hkF
    unfold nextM at h1
    rw [if_pos rfl] at h1
    have := h.mN
    omega
  · left
    have : k = F := by omega
    omega

theorem bitInfo : (Try.prog.info? 40).map (fun i => (i.zero, i.size, i.bytes)) = some (some (.agg #[.int .i64 0, .slice none 0 0]), 2, 32) := by kernel_rfl
theorem below_new (w : World) (o : Obj) : Below w.heap.size w (w.alloc o) := (Below.refl _ _).alloc (Nat.le_refl _) _
theorem same_yes (ao bo : Option Addr) (ca cb : Nat) (a : List UInt8) (w : World) (ha : BAt w ao a) (hb : BAt w bo a) (hm : a.length ≤ 9223372036854775807) :
    Calls Try.prog 12 #[.slice ao a.length ca, .slice bo a.length cb] w fun e w' => e = .returned (.bool true) ∧ Below w.heap.size w w' := by
  have := same_any ao bo ca cb a a w ha hb hm hm
  simpa only [beq_self_eq_true] using this
set_option maxRecDepth 20000 in
set_option maxHeartbeats 8000000 in
theorem all_walk (ao : Option Addr) (cap : Nat) (p : List UInt8) (bo : Option Addr) (bcap : Nat) (A : List Int) (W : World) (h0 : ao = none → p.length = 0 ∧ cap = 0) (hp : BAt W ao p) (hcm : p.length ≤ 9223372036854775807) (hA : A.length ≤ 9223372036854775807) (hrow : 0 < A.length → ∃ b off, bo = some ⟨b, off, none⟩ ∧ b < W.heap.size ∧ ∀ i, (hi : i < A.length) → W.cell? ⟨b, off + i, none⟩ = some (.int .i64 A[i])) :
    Calls Try.prog 5 #[.slice ao p.length cap, .slice bo A.length bcap] W fun e w' => e = .returned (.bool true) ∧ Below W.heap.size W w' := by
  have H0 := Lib.hid h0
  have Hp := Lib.hid hp
  have Hrow := Lib.hid hrow
  clear h0 hp hrow
  by_cases h1 : (p.length : Int) < 1
  · go_enter Try.func5, Try.ntmps5
    go_wp2_with fail
    go_ret
    exact ⟨rfl, (by repeat (first | with_reducible exact Below.refl _ _ | with_reducible assumption | with_reducible refine Below.drew ?_ | with_reducible refine below_drawn ?_ | with_reducible refine Below.alloc ?_ (by first | omega | (simp; done) | (simp; omega) | (simp at *; omega)) _ | with_reducible refine Below.setCell ?_ (by first | omega | (simp; done) | (simp; omega) | (simp at *; omega)) _ | with_reducible refine Below.trans ?_ (Below.mono (by assumption) (by first | omega | (simp; done) | (simp; omega) | (simp at *; omega)))))⟩
  by_cases h2 : (3000 : Int) < p.length
  · go_enter Try.func5, Try.ntmps5
    go_wp2_with fail
    go_ret
    exact ⟨rfl, (by repeat (first | with_reducible exact Below.refl _ _ | with_reducible assumption | with_reducible refine Below.drew ?_ | with_reducible refine below_drawn ?_ | with_reducible refine Below.alloc ?_ (by first | omega | (simp; done) | (simp; omega) | (simp at *; omega)) _ | with_reducible refine Below.setCell ?_ (by first | omega | (simp; done) | (simp; omega) | (simp at *; omega)) _ | with_reducible refine Below.trans ?_ (Below.mono (by assumption) (by first | omega | (simp; done) | (simp; omega) | (simp at *; omega)))))⟩
  by_cases h3 : (60 : Int) < A.length
  · go_enter Try.func5, Try.ntmps5
    go_wp2_with fail
    go_ret
    exact ⟨rfl, (by repeat (first | with_reducible exact Below.refl _ _ | with_reducible assumption | with_reducible refine Below.drew ?_ | with_reducible refine below_drawn ?_ | with_reducible refine Below.alloc ?_ (by first | omega | (simp; done) | (simp; omega) | (simp at *; omega)) _ | with_reducible refine Below.setCell ?_ (by first | omega | (simp; done) | (simp; omega) | (simp at *; omega)) _ | with_reducible refine Below.trans ?_ (Below.mono (by assumption) (by first | omega | (simp; done) | (simp; omega) | (simp at *; omega)))))⟩
  go_enter Try.func5, Try.ntmps5
  go_wp2_with fail
  refine (new_any ao cap p _ H0.out Hp.out (by omega)).mono ?_
  rintro e w1 ⟨po, go, rfl, ho1, hb1, hpo1, hgo1, hgp⟩
  have S0 := Lib.hid ((St.start W).new hb1 (thOut po go p 0) ho1 (fun x hx => by
    rcases hx with hx | ⟨hx, -⟩ <;> omega))
  clear ho1 hb1 hpo1 hgo1
  go_wp2_with fail
  refine (begin_yes (p.length : Int) _ (by omega) (by omega) W.heap.size).mono ?_
  rintro e w2 ⟨rfl, hi2, hb2⟩
  have S1 := Lib.hid ((S0.out.new hb2 (thIn w1.heap.size W.heap.size (p.take 0) p.length none) hi2 (fun x hx => by
    rcases hx with hx | hx
    · omega
    · cases hx)).pull (A := [_]))
  have S2 := Lib.hid (((S1.out.grow (Below.refl _ _)).new (Below.refl _ _) (thLate p none 0 [] (fun _ => False)) (late_nil _ p) (fun x hx => by
    rcases hx with ⟨a, e, -⟩ | hx
    · cases e
    · exact hx.elim)).pull (A := [_, _]))
  obtain ⟨pi, hpi⟩ : ∃ pi, pi = w1.heap.size := ⟨_, rfl⟩
  rw [← hpi] at S2 ⊢
  have S3 := Lib.hid (S2.out.pull (A := [_, _]))
  clear hpi S0 S1 S2 hi2 hb2
  have hdiv1 : ((p.length : Int) / 512) = ((p.length / 512 : Nat) : Int) := by omega
  have hdiv2 : ((p.length : Int).tdiv 512) = ((p.length / 512 : Nat) : Int) := by rw [Int.tdiv_eq_ediv_of_nonneg (by omega)]; exact hdiv1
  obtain ⟨d, hd⟩ : ∃ d, d = p.length / 512 := ⟨_, rfl⟩
  rw [← hd] at hdiv1 hdiv2
  have hd6 : d ≤ 6 := by omega
  have Hd := Lib.hid hd
  clear hd
  go_wp2_with fail
  go_loopw [8, 9] (fun s8 s9 wr => ∃ (k t m lc : Nat) (lo : Option Addr) (o : Option Nat) (Q : List Nat) (G : Nat → Prop), s8 = .slice lo Q.length lc ∧ s9 = .int .i64 k ∧ k ≤ A.length + d + 3 ∧ Q.length ≤ k ∧ Hid (Play p.length A.length k t m) ∧ Hid (St W wr [thOut po go p t, thIn pi W.heap.size (p.take m) p.length o, thLate p lo lc Q G])) (fun _ s9 _ => A.length + d + 3 - (intOf s9).toNat)
  case atStart => exact ⟨0, 0, 0, 0, none, none, [], (fun _ => False), rfl, rfl, by omega, Nat.le_refl _, ⟨Nat.le_refl _, Nat.zero_le _, fun h => by omega⟩, S3⟩
  case round =>
    obtain ⟨k, t, m, lc, lo, o, Q, G, rfl, rfl, hk, hQk, hP, S⟩ := hrel
    clear S3
    have htm := hP.out.tm
    have hmN := hP.out.mN
    by_cases hlt : (k : Int) < A.length + d + 3
    · go_wp2_with fail
      refine (next_any po go p t _ S.out.head (by omega) (by omega)).mono ?_
      rintro e w1 ⟨q0, qc, rfl, hq1, hb1⟩
      have S1 := Lib.hid (S.out.own hb1 hq1)
      have hpl : (pieceOf p t).length ≤ 512 := by rw [pieceOf_length]; omega
      have hws := hb1.size
      clear hq1 hb1 S
      by_cases hkF : (k : Int) < A.length
      · obtain ⟨b, off, rfl, hb, hr⟩ := Hrow.out (by omega)
        have hcv := (S1.out.b.cell (p := ⟨b, off + k, none⟩) hb).trans (hr k (by omega))
        obtain ⟨a, ha⟩ : ∃ a, a = A[k]'(by omega) := ⟨_, rfl⟩
        rw [← ha] at hcv
        obtain ⟨f, hf⟩ : ∃ f, bits .and .i64 a 3 = f := ⟨_, rfl⟩
        clear ha hr
        by_cases hf1 : f = 1
        · go_wp2_with fail
          go_roundw
          case rel => exact ⟨k + 1, t, m, lc, lo, o, Q, G, rfl, by go_num, by omega, by omega, play_stay hP.out (by omega), S1.out.drop⟩
          case measure => simp [intOf]; omega
        · by_cases hf2 : f = 2
          · subst hf2
            have hlate := (S1.out.pull (A := [_, _, _])).head
            obtain ⟨xs, hxl, hxc, hxx⟩ := LateAt.olds hlate
            have hqb : QBytes w1 (fun g => ∃ a, q0 = some a ∧ a.block = g) q0 qc (pieceOf p t) := by
              have ho : OwnB w1 wr.heap.size q0 qc (pieceOf p t) := S1.out.head
              refine ⟨ho.none, fun hp => ?_⟩
              obtain ⟨g, e, _, hlt, hr⟩ := ho.row hp
              exact ⟨g, 0, e, ⟨_, e, rfl⟩, hlt, hr⟩
            have hH : ∀ g, (∃ a, q0 = some a ∧ a.block = g) → g < w1.heap.size := fun g hg => (thOwn wr.heap.size q0 qc (pieceOf p t)).lt S1.out.head hg
            have hfin : ∀ (y : World) (co : Option Addr) (cc : Nat), LateAt y p co cc (Q ++ [t]) (fun g => G g ∨ ∃ a, q0 = some a ∧ a.block = g) → Keeps w1 y (fun z => ∃ a, lo = some a ∧ a.block = z) → (∀ a, co = some a → lo = some a ∨ w1.heap.size ≤ a.block) → St W y [thOut po go p t, thIn pi W.heap.size (p.take m) p.length o, thLate p co cc (Q ++ [t]) (fun g => G g ∨ ∃ a, q0 = some a ∧ a.block = g)] := by
              intro y co cc hl hk hc
              have h3 := (S1.out.pull (A := [_, _, _])).merge (hk.weak (fun z _ hz => .inl hz)) (thLate p co cc (Q ++ [t]) (fun g => G g ∨ ∃ a, q0 = some a ∧ a.block = g)) hl (fun z hz => by
                rcases hz with ⟨a, rfl, rfl⟩ | hz | hz
                · rcases hc a rfl with h | h
                  · exact .inl (.inl ⟨a, h, rfl⟩)
                  · exact .inr (.inr h)
                · exact .inl (.inr hz)
                · exact .inr (.inl hz))
              exact (h3.pull (A := [_, _])).pull (A := [_, _])
            have hnb : ∀ a, lo = some a → ∀ g, (∃ a, q0 = some a ∧ a.block = g) → g ≠ a.block := fun a ha g hg e => (S1.out.pull (A := [_, _, _])).t.2.2.1 (thOwn wr.heap.size q0 qc (pieceOf p t)) (by simp) g (.inl ⟨a, ha, e.symm⟩) hg
            have hgrown : ∀ (y : World) (v : Value) (base : Nat), w1.heap.size ≤ base → Below w1.heap.size w1 y → y.ownsRow base 40 2 v (Q.length + 1) (xs ++ [.int .i64 t, .slice q0 (pieceOf p t).length qc]) → ∃ co cc, v = .slice co (Q.length + 1) cc ∧ St W y [thOut po go p t, thIn pi W.heap.size (p.take m) p.length o, thLate p co cc (Q ++ [t]) (fun g => G g ∨ ∃ a, q0 = some a ∧ a.block = g)] := by
              intro y v base hbase hb hown
              obtain ⟨co, cc, e, hl, hco⟩ := late_grown hlate hxl hxx hb hqb hH hbase hown
              exact ⟨co, cc, e, hfin y co cc hl (keeps_same hb _) (fun a ha => .inr (hco a ha))⟩
            have hsrc : ∀ j u, [Value.int .i64 (t : Int), .slice q0 (pieceOf p t).length qc][j]? = some u → (w1.alloc (.cells #[.int .i64 t, .slice q0 (pieceOf p t).length qc] 40)).cell? ((⟨w1.heap.size, 0, none⟩ : Addr).add j) = some u := cell_two_new w1 _ _ _
            have hold : ∀ b2, lo = some b2 → ∀ j u, xs[j]? = some u → (w1.alloc (.cells #[.int .i64 t, .slice q0 (pieceOf p t).length qc] 40)).cell? (b2.add j) = some u := fun b2 hb2 j u hu => by
              have h := hxc b2 hb2 j u hu
              exact ((below_new w1 _).cell (lt_of_cellB h)).trans h
            obtain ⟨j0, hj, hy0, hy1, hy2⟩ := info_parts bitInfo
            have Hlate := Lib.hid hlate
            have Hqb := Lib.hid hqb
            have HH := Lib.hid hH
            have Hfin2 := Lib.hid hfin
            have Hnb := Lib.hid hnb
            have Hgrown := Lib.hid hgrown
            have Hsrc := Lib.hid hsrc
            have Hold := Lib.hid hold
            have Hxl := Lib.hid hxl
            clear hlate hqb hH hfin hnb hgrown hsrc hold hxl hxc hxx
            cases lo with
            | none =>
              obtain ⟨rfl, rfl⟩ : Q = [] ∧ lc = 0 := by
                rcases Hlate.out.2 with ⟨-, h1, h2⟩ | ⟨b, o, c, e, -⟩
                · exact ⟨h1, h2⟩
                · cases e
              obtain rfl : xs = [] := List.length_eq_zero_iff.1 (by have := Hxl.out; simpa using this)
              go_wp2_with (at_builtin; go_must (refine wpList_append_grows _ rfl (.tmp 74) (.tmp 78) 38 rfl 40 j0 (.agg #[.int .i64 0, .slice none 0 0]) 2 32 Try.underlying38 hj hy0 hy1 hy2 rfl (by decide) none 0 0 [] rfl (fun _ => ⟨rfl, rfl⟩) rfl (fun b hb => (nomatch hb)) ⟨w1.heap.size, 0, none⟩ 1 1 [.int .i64 t, .slice q0 (pieceOf p t).length qc] rfl rfl Hsrc.out (by simp [Value.oneCell']) (by decide) (by decide) (by decide) ?_))
              intro v w2 hown hgrow
              obtain ⟨co, cc, rfl, hS⟩ := Hgrown.out w2 v _ (by simp) (below_grown (below_new w1 _) (by simp) hgrow (fun k hk => by cases hk)) hown
              have S2 := Lib.hid hS
              clear hown hgrow hS Hgrown S1
              go_wp2_with fail
              go_roundw
              case rel => exact ⟨k + 1, t, m, cc, co, o, [] ++ [t], _, rfl, by go_num, by omega, by simp, play_stay hP.out (by omega), S2⟩
              case measure => simp [intOf]; omega
            | some a2 =>
              obtain ⟨b2, off2, hab⟩ : ∃ b2 off2, a2 = ⟨b2, off2, none⟩ := by
                rcases Hlate.out.2 with ⟨h1, -⟩ | ⟨b, o, c, e, -⟩
                · cases h1
                · simp only [Option.some.injEq] at e; exact ⟨b, o, e⟩
              subst hab
              have hlcm : Q.length ≤ lc ∧ lc ≤ 9223372036854775807 ∧ ∃ cur, w1.heap[b2]? = some (.cells cur 40 (0, 0)) ∧ off2 + lc * 2 ≤ cur.size := by
                rcases Hlate.out.2 with ⟨h1, -⟩ | ⟨b, o, c, e, -, hh, h1, h2, h3, -⟩
                · cases h1
                · simp only [Option.some.injEq, Addr.mk.injEq, and_true] at e
                  obtain ⟨rfl, rfl⟩ := e
                  unfold maxLen at h2
                  exact ⟨h1, by omega, c, hh, h3⟩
              obtain ⟨hq1, hq2, cur, hh, hcs⟩ := hlcm
              have hspare : Q.length + 1 ≤ lc → ∀ j, j < [Value.int .i64 (t : Int), .slice q0 (pieceOf p t).length qc].length → ((w1.alloc (.cells #[.int .i64 t, .slice q0 (pieceOf p t).length qc] 40)).cell? ⟨b2, off2 + Q.length * 2 + j, none⟩).isSome = true ∧ (w1.alloc (.cells #[.int .i64 t, .slice q0 (pieceOf p t).length qc] 40)).frozen? ⟨b2, off2 + Q.length * 2 + j, none⟩ = false := fun hr j hj => by
                have hj2 : j < 2 := hj
                rw [(below_new w1 _).cell (p := ⟨b2, off2 + Q.length * 2 + j, none⟩) (lt_of_block hh), (below_new w1 _).frozen (p := ⟨b2, off2 + Q.length * 2 + j, none⟩) (lt_of_block hh), Go.Joins.cell_of_block hh, Go.Joins.unfrozen_of_block hh]
                exact ⟨by rw [Array.getElem?_eq_getElem (by omega)]; rfl, rfl⟩
              have Hspare := Lib.hid hspare
              have Hol : Hid (∀ j u, xs[j]? = some u → (w1.alloc (.cells #[.int .i64 t, .slice q0 (pieceOf p t).length qc] 40)).cell? ⟨b2, off2 + j, none⟩ = some u) := fun j u hu => by
                have := Hold.out _ rfl j u hu
                rwa [add_none] at this
              clear hspare hh hcs Hold
              go_wp2_with (at_builtin; go_must (refine wpList_append_arg _ rfl (.tmp 74) (.tmp 78) 38 rfl 40 j0 (.agg #[.int .i64 0, .slice none 0 0]) 2 32 Try.underlying38 hj hy0 hy1 hy2 rfl (by decide) b2 off2 Q.length lc xs rfl Hxl.out Hol.out ⟨w1.heap.size, 0, none⟩ 1 1 [.int .i64 t, .slice q0 (pieceOf p t).length qc] rfl rfl Hsrc.out (by simp [Value.oneCell']) Hspare.out (by unfold maxLen; omega) (by omega) ?_ ?_))
              · intro hroom
                obtain ⟨hl, hkk⟩ := late_room Hlate.out hroom (below_new w1 (.cells #[.int .i64 t, .slice q0 (pieceOf p t).length qc] 40)) Hqb.out (fun g hg => ⟨HH.out g hg, Hnb.out _ rfl g hg⟩)
                have S2 := Lib.hid (Hfin2.out _ _ _ hl (hkk.weak (fun z _ hz => ⟨_, rfl, hz.symm⟩)) (fun a ha => .inl ha))
                obtain ⟨wx, hwx⟩ : ∃ wx, wx = (w1.alloc (.cells #[.int .i64 t, .slice q0 (pieceOf p t).length qc] 40)).setCells b2 (off2 + Q.length * 2) [.int .i64 t, .slice q0 (pieceOf p t).length qc] := ⟨_, rfl⟩
                rw [← hwx] at S2 ⊢
                clear hl hkk hwx Hgrown S1
                go_wp2_with fail
                go_roundw
                case rel => exact ⟨k + 1, t, m, lc, some ⟨b2, off2, none⟩, o, Q ++ [t], _, by rw [List.length_append]; rfl, by go_num, by omega, by rw [List.length_append]; simp; omega, play_stay hP.out (by omega), S2⟩
                case measure => simp [intOf]; omega
              · intro hgr v w2 hown hgrow
                obtain ⟨co, cc, rfl, hS⟩ := Hgrown.out w2 v _ (by simp) (below_grown (below_new w1 _) (by simp) hgrow (fun k hk => by cases hk)) hown
                have S2 := Lib.hid hS
                clear hown hgrow hS Hgrown S1
                go_wp2_with fail
                go_roundw
                case rel => exact ⟨k + 1, t, m, cc, co, o, Q ++ [t], _, by rw [List.length_append]; rfl, by go_num, by omega, by rw [List.length_append]; simp; omega, play_stay hP.out (by omega), S2⟩
                case measure => simp [intOf]; omega
          · by_cases hf0 : f = 0
            ·
              have hT := inTake_any pi W.heap.size (p.take m) o p.length t q0 qc (pieceOf p t) w1 (S1.out.pull (A := [_, _])).head (show OwnB w1 wr.heap.size q0 qc (pieceOf p t) from S1.out.head).none (show OwnB w1 wr.heap.size q0 qc (pieceOf p t) from S1.out.head).at S1.out.b.size (by rw [take_len p m hmN]; omega) (by omega) (by omega)
              obtain ⟨hn1, hn2⟩ := nextM_le (x := t) hmN
              rw [take_piece p m t hmN, take_len p _ hn1] at hT
              obtain ⟨m1, hm1⟩ : ∃ m1, m1 = nextM p.length m t := ⟨_, rfl⟩
              rw [← hm1] at hT hn1 hn2
              have HT := Lib.hid hT
              have Hm1 := Lib.hid hm1
              clear hT hm1
              go_wp2_with fail
              refine HT.out.mono ?_
              rintro e w2 ⟨rfl, ⟨o', hi2, hf2'⟩, hk2⟩
              have S2 := Lib.hid (((((S1.out.pull (A := [_, _])).took hi2 hf2' hk2).pull (A := [_])).drop).pull (A := [_]))
              clear HT hi2 hf2' hk2 S1
              go_wp2_with fail
              refine (outAck_any po go p t (m1 : Int) _ S2.out.head hgp).mono ?_
              rintro e w3 ⟨rfl, ho3, hk3⟩
              rw [ack_told (by omega) hn1] at ho3
              have S3 := Lib.hid (S2.out.acked ho3 hk3)
              obtain ⟨t1, ht1e⟩ : ∃ t1, t1 = m1 := ⟨_, rfl⟩
              rw [show thOut po go p m1 = thOut po go p t1 from by rw [ht1e]] at S3
              have ht1 : t1 ≤ m1 := by omega
              have Hfin : Hid (∀ t2 m2, (t2 = m2 ∨ (t2 = t1 ∧ m2 = m1)) → m1 ≤ m2 → m2 ≤ p.length → t2 ≤ m2 → Play p.length A.length (k + 1) t2 m2) := fun t2 m2 _ _ h3 h4 => play_take (by omega) t2 m2 h4 h3
              clear ht1e
              clear S2 hP
              cases Q with
              | nil =>
                go_wp2_with fail
                go_roundw
                case rel => exact ⟨k + 1, t1, m1, lc, lo, o', [], G, rfl, by go_num, by omega, by simp, Hfin.out t1 m1 (.inr ⟨rfl, rfl⟩) (Nat.le_refl _) hn1 ht1, S3⟩
                case measure => simp [intOf]; omega
              | cons x Q =>
                obtain ⟨b2, off2, qo, qc2, rfl, hb2, hlc1, hlcm, c0, c1, hq⟩ := LateAt.head (S3.out.pull (A := [_, _])).head
                have hdi : ¬ Foot pi o' b2 := (S3.out.pull (A := [_, _])).t.2.2.1 (thIn pi W.heap.size (p.take m1) p.length o') (by simp) b2 (.inl ⟨_, rfl, rfl⟩)
                have hdo : b2 ≠ po := fun h => (S3.out.pull (A := [_, _])).t.2.2.1 (thOut po go p t1) (by simp) b2 (.inl ⟨_, rfl, rfl⟩) (.inl h)
                have hpx : (pieceOf p x).length ≤ 512 := by rw [pieceOf_length]; omega
                obtain ⟨hx1, hx2⟩ := nextM_le (x := x) hn1
                obtain ⟨m2, hm2⟩ : ∃ m2, m2 = nextM p.length m1 x := ⟨_, rfl⟩
                rw [← hm2] at hx1 hx2
                have Hm2 := Lib.hid hm2
                have Hq := Lib.hid hq
                have HD := Lib.hid (⟨hdi, hdo⟩ : _ ∧ _)
                have hqk : Q.length + 1 ≤ k + 1 := by simp only [List.length_cons] at hQk; omega
                have hT2 : ∀ w', InAt w' pi W.heap.size (p.take m1) p.length o' → BAt w' qo (pieceOf p x) → W.heap.size ≤ w'.heap.size → Calls Try.prog 21 #[.pointer (some ⟨pi, 0, none⟩), .int .i64 x, .slice qo (pieceOf p x).length qc2] w' fun e y => e = .returned (.int .i64 m2) ∧ (∃ o2, InAt y pi W.heap.size (p.take m2) p.length o2 ∧ ∀ g, o2 = some g → o' = some g ∨ w'.heap.size ≤ g) ∧ Keeps w' y (Foot pi o') := by
                  intro w' hi hb hs
                  have := inTake_any pi W.heap.size (p.take m1) o' p.length x qo qc2 (pieceOf p x) w' hi Hq.out.1 hb hs (by rw [take_len p m1 hn1]; omega) (by omega) (by omega)
                  rw [take_piece p m1 x hn1, ← Hm2.out, take_len p m2 hx1] at this
                  exact this
                have HT2 := Lib.hid hT2
                have hbq : BAt w3 qo (pieceOf p x) := fun hp => by
                  obtain ⟨g, o, e, _, hlt, hr⟩ := Hq.out.2 hp
                  exact ⟨g, o, e, hlt, hr⟩
                have Hbq := Lib.hid hbq
                clear hq hm2 hdi hdo hT2 hbq
                have hnew : ∀ (y : World) (o2 : Option Nat) (off' : Nat), St W y [thOut po go p m2, thIn pi W.heap.size (p.take m2) p.length o2, thLate p (some ⟨b2, off2, none⟩) lc (x :: Q) G] → (1 < lc → off' = off2 + 2) → off' ≤ off2 + 2 → St W y [thOut po go p m2, thIn pi W.heap.size (p.take m2) p.length o2, thLate p (some ⟨b2, off', none⟩) (lc - 1) Q G] := by
                  intro y o2 off' h ho hle
                  have h2 := (h.pull (A := [_, _]))
                  have h3 := h2.step (Keeps.refl _ _) (thLate p (some ⟨b2, off', none⟩) (lc - 1) Q G) (LateAt.tail h2.head off' ho hle) (fun z hz => by
                    rcases hz with ⟨a, e, hz⟩ | hz
                    · simp only [Option.some.injEq] at e
                      subst e
                      exact .inl (.inl ⟨_, rfl, hz⟩)
                    · exact .inl (.inr hz))
                  exact ((h3.pull (A := [_])).pull (A := [_, _])).pull (A := [_])
                have Hnew := Lib.hid hnew
                clear hnew
                by_cases hc1 : lc = 1
                · subst hc1
                  go_wp2_with fail
                  go_region_held3 (fun w' => w'.cell? ⟨b2, off2, none⟩ = some (.int .i64 x) ∧ w'.cell? ⟨b2, off2 + 1, none⟩ = some (.slice qo (pieceOf p x).length qc2)) (go_keep) (first
                    | (go_at_call 21; refine (HT2.out _ ((S3.out.grow (Below.refl _ _).drew).pull (A := [_])).head (Hbq.out.below (Below.refl _ _).drew) (S3.out.grow (Below.refl _ _).drew).b.size).mono ?_; rintro e y1 ⟨rfl, ⟨o2, i2, f2⟩, k2⟩; have d0 := (k2.cell (p := ⟨b2, off2, none⟩) hb2 HD.out.1).trans c0; have d1 := (k2.cell (p := ⟨b2, off2 + 1, none⟩) hb2 HD.out.1).trans c1; have hb3 := Nat.lt_of_lt_of_le hb2 (show w3.heap.size ≤ y1.heap.size from k2.size); have S4 := Lib.hid ((((S3.out.grow (Below.refl _ _).drew).pull (A := [_])).took i2 f2 k2).pull (A := [_])); clear i2 f2 k2)
                    | (go_at_call 16; refine (outAck_any po go p t1 (m2 : Int) _ S4.out.head hgp).mono ?_; rintro e y2 ⟨rfl, ho5, hk5⟩; rw [ack_told (by omega) hx1] at ho5; have e0 := (hk5.cell (p := ⟨b2, off2, none⟩) hb3 HD.out.2).trans d0; have e1 := (hk5.cell (p := ⟨b2, off2 + 1, none⟩) hb3 HD.out.2).trans d1; have S5 := Lib.hid (S4.out.acked ho5 hk5); clear ho5 hk5))
                  go_wp2_with fail
                  go_roundw
                  case rel => exact ⟨k + 1, m2, m2, 0, some ⟨b2, off2, none⟩, o2, Q, G, rfl, by go_num, by omega, by omega, Hfin.out m2 m2 (.inl rfl) hx2 hx1 (Nat.le_refl _), Hnew.out _ _ off2 S5.out (fun h => by omega) (by omega)⟩
                  case measure => simp [intOf]; omega
                · go_wp2_with fail
                  go_region_held3 (fun w' => w'.cell? ⟨b2, off2, none⟩ = some (.int .i64 x) ∧ w'.cell? ⟨b2, off2 + 1, none⟩ = some (.slice qo (pieceOf p x).length qc2)) (go_keep) (first
                    | (go_at_call 21; refine (HT2.out _ ((S3.out.grow (Below.refl _ _).drew).pull (A := [_])).head (Hbq.out.below (Below.refl _ _).drew) (S3.out.grow (Below.refl _ _).drew).b.size).mono ?_; rintro e y1 ⟨rfl, ⟨o2, i2, f2⟩, k2⟩; have d0 := (k2.cell (p := ⟨b2, off2, none⟩) hb2 HD.out.1).trans c0; have d1 := (k2.cell (p := ⟨b2, off2 + 1, none⟩) hb2 HD.out.1).trans c1; have hb3 := Nat.lt_of_lt_of_le hb2 (show w3.heap.size ≤ y1.heap.size from k2.size); have S4 := Lib.hid ((((S3.out.grow (Below.refl _ _).drew).pull (A := [_])).took i2 f2 k2).pull (A := [_])); clear i2 f2 k2)
                    | (go_at_call 16; refine (outAck_any po go p t1 (m2 : Int) _ S4.out.head hgp).mono ?_; rintro e y2 ⟨rfl, ho5, hk5⟩; rw [ack_told (by omega) hx1] at ho5; have e0 := (hk5.cell (p := ⟨b2, off2, none⟩) hb3 HD.out.2).trans d0; have e1 := (hk5.cell (p := ⟨b2, off2 + 1, none⟩) hb3 HD.out.2).trans d1; have S5 := Lib.hid (S4.out.acked ho5 hk5); clear ho5 hk5))
                  go_wp2_with fail
                  go_roundw
                  case rel => exact ⟨k + 1, m2, m2, lc - 1, some ⟨b2, off2 + 2, none⟩, o2, Q, G, rfl, by go_num, by omega, by omega, Hfin.out m2 m2 (.inl rfl) hx2 hx1 (Nat.le_refl _), Hnew.out _ _ (off2 + 2) S5.out (fun _ => rfl) (Nat.le_refl _)⟩
                  case measure => simp [intOf]; omega
            ·
              have hT := inTake_any pi W.heap.size (p.take m) o p.length t q0 qc (pieceOf p t) w1 (S1.out.pull (A := [_, _])).head (show OwnB w1 wr.heap.size q0 qc (pieceOf p t) from S1.out.head).none (show OwnB w1 wr.heap.size q0 qc (pieceOf p t) from S1.out.head).at S1.out.b.size (by rw [take_len p m hmN]; omega) (by omega) (by omega)
              obtain ⟨hn1, hn2⟩ := nextM_le (x := t) hmN
              rw [take_piece p m t hmN, take_len p _ hn1] at hT
              obtain ⟨m1, hm1⟩ : ∃ m1, m1 = nextM p.length m t := ⟨_, rfl⟩
              rw [← hm1] at hT hn1 hn2
              have HT := Lib.hid hT
              have Hm1 := Lib.hid hm1
              clear hT hm1
              go_wp2_with fail
              refine HT.out.mono ?_
              rintro e w2 ⟨rfl, ⟨o', hi2, hf2'⟩, hk2⟩
              have S2 := Lib.hid (((((S1.out.pull (A := [_, _])).took hi2 hf2' hk2).pull (A := [_])).drop).pull (A := [_]))
              clear HT hi2 hf2' hk2 S1
              obtain ⟨t1, rfl⟩ : ∃ t1, t1 = t := ⟨_, rfl⟩
              have S3 := S2
              have ht1 : t1 ≤ m1 := by omega
              have Hfin : Hid (∀ t2 m2, (t2 = m2 ∨ (t2 = t1 ∧ m2 = m1)) → m1 ≤ m2 → m2 ≤ p.length → t2 ≤ m2 → Play p.length A.length (k + 1) t2 m2) := fun t2 m2 _ _ h3 h4 => play_take (by omega) t2 m2 h4 h3
              obtain ⟨w3, rfl⟩ : ∃ w3, w3 = w2 := ⟨_, rfl⟩
              clear S2 hP
              cases Q with
              | nil =>
                go_wp2_with fail
                go_roundw
                case rel => exact ⟨k + 1, t1, m1, lc, lo, o', [], G, rfl, by go_num, by omega, by simp, Hfin.out t1 m1 (.inr ⟨rfl, rfl⟩) (Nat.le_refl _) hn1 ht1, S3⟩
                case measure => simp [intOf]; omega
              | cons x Q =>
                obtain ⟨b2, off2, qo, qc2, rfl, hb2, hlc1, hlcm, c0, c1, hq⟩ := LateAt.head (S3.out.pull (A := [_, _])).head
                have hdi : ¬ Foot pi o' b2 := (S3.out.pull (A := [_, _])).t.2.2.1 (thIn pi W.heap.size (p.take m1) p.length o') (by simp) b2 (.inl ⟨_, rfl, rfl⟩)
                have hdo : b2 ≠ po := fun h => (S3.out.pull (A := [_, _])).t.2.2.1 (thOut po go p t1) (by simp) b2 (.inl ⟨_, rfl, rfl⟩) (.inl h)
                have hpx : (pieceOf p x).length ≤ 512 := by rw [pieceOf_length]; omega
                obtain ⟨hx1, hx2⟩ := nextM_le (x := x) hn1
                obtain ⟨m2, hm2⟩ : ∃ m2, m2 = nextM p.length m1 x := ⟨_, rfl⟩
                rw [← hm2] at hx1 hx2
                have Hm2 := Lib.hid hm2
                have Hq := Lib.hid hq
                have HD := Lib.hid (⟨hdi, hdo⟩ : _ ∧ _)
                have hqk : Q.length + 1 ≤ k + 1 := by simp only [List.length_cons] at hQk; omega
                have hT2 : ∀ w', InAt w' pi W.heap.size (p.take m1) p.length o' → BAt w' qo (pieceOf p x) → W.heap.size ≤ w'.heap.size → Calls Try.prog 21 #[.pointer (some ⟨pi, 0, none⟩), .int .i64 x, .slice qo (pieceOf p x).length qc2] w' fun e y => e = .returned (.int .i64 m2) ∧ (∃ o2, InAt y pi W.heap.size (p.take m2) p.length o2 ∧ ∀ g, o2 = some g → o' = some g ∨ w'.heap.size ≤ g) ∧ Keeps w' y (Foot pi o') := by
                  intro w' hi hb hs
                  have := inTake_any pi W.heap.size (p.take m1) o' p.length x qo qc2 (pieceOf p x) w' hi Hq.out.1 hb hs (by rw [take_len p m1 hn1]; omega) (by omega) (by omega)
                  rw [take_piece p m1 x hn1, ← Hm2.out, take_len p m2 hx1] at this
                  exact this
                have HT2 := Lib.hid hT2
                have hbq : BAt w3 qo (pieceOf p x) := fun hp => by
                  obtain ⟨g, o, e, _, hlt, hr⟩ := Hq.out.2 hp
                  exact ⟨g, o, e, hlt, hr⟩
                have Hbq := Lib.hid hbq
                clear hq hm2 hdi hdo hT2 hbq
                have hnew : ∀ (y : World) (o2 : Option Nat) (off' : Nat), St W y [thOut po go p m2, thIn pi W.heap.size (p.take m2) p.length o2, thLate p (some ⟨b2, off2, none⟩) lc (x :: Q) G] → (1 < lc → off' = off2 + 2) → off' ≤ off2 + 2 → St W y [thOut po go p m2, thIn pi W.heap.size (p.take m2) p.length o2, thLate p (some ⟨b2, off', none⟩) (lc - 1) Q G] := by
                  intro y o2 off' h ho hle
                  have h2 := (h.pull (A := [_, _]))
                  have h3 := h2.step (Keeps.refl _ _) (thLate p (some ⟨b2, off', none⟩) (lc - 1) Q G) (LateAt.tail h2.head off' ho hle) (fun z hz => by
                    rcases hz with ⟨a, e, hz⟩ | hz
                    · simp only [Option.some.injEq] at e
                      subst e
                      exact .inl (.inl ⟨_, rfl, hz⟩)
                    · exact .inl (.inr hz))
                  exact ((h3.pull (A := [_])).pull (A := [_, _])).pull (A := [_])
                have Hnew := Lib.hid hnew
                clear hnew
                by_cases hc1 : lc = 1
                · subst hc1
                  go_wp2_with fail
                  go_region_held3 (fun w' => w'.cell? ⟨b2, off2, none⟩ = some (.int .i64 x) ∧ w'.cell? ⟨b2, off2 + 1, none⟩ = some (.slice qo (pieceOf p x).length qc2)) (go_keep) (first
                    | (go_at_call 21; refine (HT2.out _ ((S3.out.grow (Below.refl _ _).drew).pull (A := [_])).head (Hbq.out.below (Below.refl _ _).drew) (S3.out.grow (Below.refl _ _).drew).b.size).mono ?_; rintro e y1 ⟨rfl, ⟨o2, i2, f2⟩, k2⟩; have d0 := (k2.cell (p := ⟨b2, off2, none⟩) hb2 HD.out.1).trans c0; have d1 := (k2.cell (p := ⟨b2, off2 + 1, none⟩) hb2 HD.out.1).trans c1; have hb3 := Nat.lt_of_lt_of_le hb2 (show w3.heap.size ≤ y1.heap.size from k2.size); have S4 := Lib.hid ((((S3.out.grow (Below.refl _ _).drew).pull (A := [_])).took i2 f2 k2).pull (A := [_])); clear i2 f2 k2)
                    | (go_at_call 16; refine (outAck_any po go p t1 (m2 : Int) _ S4.out.head hgp).mono ?_; rintro e y2 ⟨rfl, ho5, hk5⟩; rw [ack_told (by omega) hx1] at ho5; have e0 := (hk5.cell (p := ⟨b2, off2, none⟩) hb3 HD.out.2).trans d0; have e1 := (hk5.cell (p := ⟨b2, off2 + 1, none⟩) hb3 HD.out.2).trans d1; have S5 := Lib.hid (S4.out.acked ho5 hk5); clear ho5 hk5))
                  go_wp2_with fail
                  go_roundw
                  case rel => exact ⟨k + 1, m2, m2, 0, some ⟨b2, off2, none⟩, o2, Q, G, rfl, by go_num, by omega, by omega, Hfin.out m2 m2 (.inl rfl) hx2 hx1 (Nat.le_refl _), Hnew.out _ _ off2 S5.out (fun h => by omega) (by omega)⟩
                  case measure => simp [intOf]; omega
                · go_wp2_with fail
                  go_region_held3 (fun w' => w'.cell? ⟨b2, off2, none⟩ = some (.int .i64 x) ∧ w'.cell? ⟨b2, off2 + 1, none⟩ = some (.slice qo (pieceOf p x).length qc2)) (go_keep) (first
                    | (go_at_call 21; refine (HT2.out _ ((S3.out.grow (Below.refl _ _).drew).pull (A := [_])).head (Hbq.out.below (Below.refl _ _).drew) (S3.out.grow (Below.refl _ _).drew).b.size).mono ?_; rintro e y1 ⟨rfl, ⟨o2, i2, f2⟩, k2⟩; have d0 := (k2.cell (p := ⟨b2, off2, none⟩) hb2 HD.out.1).trans c0; have d1 := (k2.cell (p := ⟨b2, off2 + 1, none⟩) hb2 HD.out.1).trans c1; have hb3 := Nat.lt_of_lt_of_le hb2 (show w3.heap.size ≤ y1.heap.size from k2.size); have S4 := Lib.hid ((((S3.out.grow (Below.refl _ _).drew).pull (A := [_])).took i2 f2 k2).pull (A := [_])); clear i2 f2 k2)
                    | (go_at_call 16; refine (outAck_any po go p t1 (m2 : Int) _ S4.out.head hgp).mono ?_; rintro e y2 ⟨rfl, ho5, hk5⟩; rw [ack_told (by omega) hx1] at ho5; have e0 := (hk5.cell (p := ⟨b2, off2, none⟩) hb3 HD.out.2).trans d0; have e1 := (hk5.cell (p := ⟨b2, off2 + 1, none⟩) hb3 HD.out.2).trans d1; have S5 := Lib.hid (S4.out.acked ho5 hk5); clear ho5 hk5))
                  go_wp2_with fail
                  go_roundw
                  case rel => exact ⟨k + 1, m2, m2, lc - 1, some ⟨b2, off2 + 2, none⟩, o2, Q, G, rfl, by go_num, by omega, by omega, Hfin.out m2 m2 (.inl rfl) hx2 hx1 (Nat.le_refl _), Hnew.out _ _ (off2 + 2) S5.out (fun _ => rfl) (Nat.le_refl _)⟩
                  case measure => simp [intOf]; omega
      ·
              have hT := inTake_any pi W.heap.size (p.take m) o p.length t q0 qc (pieceOf p t) w1 (S1.out.pull (A := [_, _])).head (show OwnB w1 wr.heap.size q0 qc (pieceOf p t) from S1.out.head).none (show OwnB w1 wr.heap.size q0 qc (pieceOf p t) from S1.out.head).at S1.out.b.size (by rw [take_len p m hmN]; omega) (by omega) (by omega)
              obtain ⟨hn1, hn2⟩ := nextM_le (x := t) hmN
              rw [take_piece p m t hmN, take_len p _ hn1] at hT
              obtain ⟨m1, hm1⟩ : ∃ m1, m1 = nextM p.length m t := ⟨_, rfl⟩
              rw [← hm1] at hT hn1 hn2
              have HT := Lib.hid hT
              have Hm1 := Lib.hid hm1
              clear hT hm1
              go_wp2_with fail
              refine HT.out.mono ?_
              rintro e w2 ⟨rfl, ⟨o', hi2, hf2'⟩, hk2⟩
              have S2 := Lib.hid (((((S1.out.pull (A := [_, _])).took hi2 hf2' hk2).pull (A := [_])).drop).pull (A := [_]))
              clear HT hi2 hf2' hk2 S1
              go_wp2_with fail
              refine (outAck_any po go p t (m1 : Int) _ S2.out.head hgp).mono ?_
              rintro e w3 ⟨rfl, ho3, hk3⟩
              rw [ack_told (by omega) hn1] at ho3
              have S3 := Lib.hid (S2.out.acked ho3 hk3)
              obtain ⟨t1, ht1e⟩ : ∃ t1, t1 = m1 := ⟨_, rfl⟩
              rw [show thOut po go p m1 = thOut po go p t1 from by rw [ht1e]] at S3
              have ht1 : t1 ≤ m1 := by omega
              have Hfin : Hid (∀ t2 m2, (t2 = m2 ∨ (t2 = t1 ∧ m2 = m1)) → m1 ≤ m2 → m2 ≤ p.length → t2 ≤ m2 → Play p.length A.length (k + 1) t2 m2) := fun t2 m2 h1 h2 h3 _ => by
                obtain rfl : t2 = m2 := by omega
                exact play_run hP.out t2 (by have := Hm1.out; omega) h3
              clear ht1e
              clear S2 hP
              cases Q with
              | nil =>
                go_wp2_with fail
                go_roundw
                case rel => exact ⟨k + 1, t1, m1, lc, lo, o', [], G, rfl, by go_num, by omega, by simp, Hfin.out t1 m1 (.inr ⟨rfl, rfl⟩) (Nat.le_refl _) hn1 ht1, S3⟩
                case measure => simp [intOf]; omega
              | cons x Q =>
                obtain ⟨b2, off2, qo, qc2, rfl, hb2, hlc1, hlcm, c0, c1, hq⟩ := LateAt.head (S3.out.pull (A := [_, _])).head
                have hdi : ¬ Foot pi o' b2 := (S3.out.pull (A := [_, _])).t.2.2.1 (thIn pi W.heap.size (p.take m1) p.length o') (by simp) b2 (.inl ⟨_, rfl, rfl⟩)
                have hdo : b2 ≠ po := fun h => (S3.out.pull (A := [_, _])).t.2.2.1 (thOut po go p t1) (by simp) b2 (.inl ⟨_, rfl, rfl⟩) (.inl h)
                have hpx : (pieceOf p x).length ≤ 512 := by rw [pieceOf_length]; omega
                obtain ⟨hx1, hx2⟩ := nextM_le (x := x) hn1
                obtain ⟨m2, hm2⟩ : ∃ m2, m2 = nextM p.length m1 x := ⟨_, rfl⟩
                rw [← hm2] at hx1 hx2
                have Hm2 := Lib.hid hm2
                have Hq := Lib.hid hq
                have HD := Lib.hid (⟨hdi, hdo⟩ : _ ∧ _)
                have hqk : Q.length + 1 ≤ k + 1 := by simp only [List.length_cons] at hQk; omega
                have hT2 : ∀ w', InAt w' pi W.heap.size (p.take m1) p.length o' → BAt w' qo (pieceOf p x) → W.heap.size ≤ w'.heap.size → Calls Try.prog 21 #[.pointer (some ⟨pi, 0, none⟩), .int .i64 x, .slice qo (pieceOf p x).length qc2] w' fun e y => e = .returned (.int .i64 m2) ∧ (∃ o2, InAt y pi W.heap.size (p.take m2) p.length o2 ∧ ∀ g, o2 = some g → o' = some g ∨ w'.heap.size ≤ g) ∧ Keeps w' y (Foot pi o') := by
                  intro w' hi hb hs
                  have := inTake_any pi W.heap.size (p.take m1) o' p.length x qo qc2 (pieceOf p x) w' hi Hq.out.1 hb hs (by rw [take_len p m1 hn1]; omega) (by omega) (by omega)
                  rw [take_piece p m1 x hn1, ← Hm2.out, take_len p m2 hx1] at this
                  exact this
                have HT2 := Lib.hid hT2
                have hbq : BAt w3 qo (pieceOf p x) := fun hp => by
                  obtain ⟨g, o, e, _, hlt, hr⟩ := Hq.out.2 hp
                  exact ⟨g, o, e, hlt, hr⟩
                have Hbq := Lib.hid hbq
                clear hq hm2 hdi hdo hT2 hbq
                have hnew : ∀ (y : World) (o2 : Option Nat) (off' : Nat), St W y [thOut po go p m2, thIn pi W.heap.size (p.take m2) p.length o2, thLate p (some ⟨b2, off2, none⟩) lc (x :: Q) G] → (1 < lc → off' = off2 + 2) → off' ≤ off2 + 2 → St W y [thOut po go p m2, thIn pi W.heap.size (p.take m2) p.length o2, thLate p (some ⟨b2, off', none⟩) (lc - 1) Q G] := by
                  intro y o2 off' h ho hle
                  have h2 := (h.pull (A := [_, _]))
                  have h3 := h2.step (Keeps.refl _ _) (thLate p (some ⟨b2, off', none⟩) (lc - 1) Q G) (LateAt.tail h2.head off' ho hle) (fun z hz => by
                    rcases hz with ⟨a, e, hz⟩ | hz
                    · simp only [Option.some.injEq] at e
                      subst e
                      exact .inl (.inl ⟨_, rfl, hz⟩)
                    · exact .inl (.inr hz))
                  exact ((h3.pull (A := [_])).pull (A := [_, _])).pull (A := [_])
                have Hnew := Lib.hid hnew
                clear hnew
                by_cases hc1 : lc = 1
                · subst hc1
                  go_wp2_with fail
                  go_region_held3 (fun w' => w'.cell? ⟨b2, off2, none⟩ = some (.int .i64 x) ∧ w'.cell? ⟨b2, off2 + 1, none⟩ = some (.slice qo (pieceOf p x).length qc2)) (go_keep) (first
                    | (go_at_call 21; refine (HT2.out _ ((S3.out.grow (Below.refl _ _).drew).pull (A := [_])).head (Hbq.out.below (Below.refl _ _).drew) (S3.out.grow (Below.refl _ _).drew).b.size).mono ?_; rintro e y1 ⟨rfl, ⟨o2, i2, f2⟩, k2⟩; have d0 := (k2.cell (p := ⟨b2, off2, none⟩) hb2 HD.out.1).trans c0; have d1 := (k2.cell (p := ⟨b2, off2 + 1, none⟩) hb2 HD.out.1).trans c1; have hb3 := Nat.lt_of_lt_of_le hb2 (show w3.heap.size ≤ y1.heap.size from k2.size); have S4 := Lib.hid ((((S3.out.grow (Below.refl _ _).drew).pull (A := [_])).took i2 f2 k2).pull (A := [_])); clear i2 f2 k2)
                    | (go_at_call 16; refine (outAck_any po go p t1 (m2 : Int) _ S4.out.head hgp).mono ?_; rintro e y2 ⟨rfl, ho5, hk5⟩; rw [ack_told (by omega) hx1] at ho5; have e0 := (hk5.cell (p := ⟨b2, off2, none⟩) hb3 HD.out.2).trans d0; have e1 := (hk5.cell (p := ⟨b2, off2 + 1, none⟩) hb3 HD.out.2).trans d1; have S5 := Lib.hid (S4.out.acked ho5 hk5); clear ho5 hk5))
                  go_wp2_with fail
                  go_roundw
                  case rel => exact ⟨k + 1, m2, m2, 0, some ⟨b2, off2, none⟩, o2, Q, G, rfl, by go_num, by omega, by omega, Hfin.out m2 m2 (.inl rfl) hx2 hx1 (Nat.le_refl _), Hnew.out _ _ off2 S5.out (fun h => by omega) (by omega)⟩
                  case measure => simp [intOf]; omega
                · go_wp2_with fail
                  go_region_held3 (fun w' => w'.cell? ⟨b2, off2, none⟩ = some (.int .i64 x) ∧ w'.cell? ⟨b2, off2 + 1, none⟩ = some (.slice qo (pieceOf p x).length qc2)) (go_keep) (first
                    | (go_at_call 21; refine (HT2.out _ ((S3.out.grow (Below.refl _ _).drew).pull (A := [_])).head (Hbq.out.below (Below.refl _ _).drew) (S3.out.grow (Below.refl _ _).drew).b.size).mono ?_; rintro e y1 ⟨rfl, ⟨o2, i2, f2⟩, k2⟩; have d0 := (k2.cell (p := ⟨b2, off2, none⟩) hb2 HD.out.1).trans c0; have d1 := (k2.cell (p := ⟨b2, off2 + 1, none⟩) hb2 HD.out.1).trans c1; have hb3 := Nat.lt_of_lt_of_le hb2 (show w3.heap.size ≤ y1.heap.size from k2.size); have S4 := Lib.hid ((((S3.out.grow (Below.refl _ _).drew).pull (A := [_])).took i2 f2 k2).pull (A := [_])); clear i2 f2 k2)
                    | (go_at_call 16; refine (outAck_any po go p t1 (m2 : Int) _ S4.out.head hgp).mono ?_; rintro e y2 ⟨rfl, ho5, hk5⟩; rw [ack_told (by omega) hx1] at ho5; have e0 := (hk5.cell (p := ⟨b2, off2, none⟩) hb3 HD.out.2).trans d0; have e1 := (hk5.cell (p := ⟨b2, off2 + 1, none⟩) hb3 HD.out.2).trans d1; have S5 := Lib.hid (S4.out.acked ho5 hk5); clear ho5 hk5))
                  go_wp2_with fail
                  go_roundw
                  case rel => exact ⟨k + 1, m2, m2, lc - 1, some ⟨b2, off2 + 2, none⟩, o2, Q, G, rfl, by go_num, by omega, by omega, Hfin.out m2 m2 (.inl rfl) hx2 hx1 (Nat.le_refl _), Hnew.out _ _ (off2 + 2) S5.out (fun _ => rfl) (Nat.le_refl _)⟩
                  case measure => simp [intOf]; omega
    · have hkT : k = A.length + p.length / 512 + 3 := by have := Hd.out; omega
      have hend := hP.out
      rw [hkT] at hend
      obtain ⟨rfl, rfl⟩ := play_end hend
      rw [List.take_length] at S
      clear hP hkT hend htm hmN
      go_wp2_with fail
      refine (outWhole_any po go p p.length _ S.out.head).mono ?_
      rintro e w1 ⟨rfl, b1⟩
      rw [show ((p.length : Int) == (p.length : Int)) = true from beq_self_eq_true _]
      have S1 := Lib.hid ((S.out.grow b1).pull (A := [_]))
      clear b1 S
      go_wp2_with fail
      refine (inWhole_any pi _ p o _ _ S1.out.head).mono ?_
      rintro e w2 ⟨rfl, b2⟩
      rw [show ((p.length : Int) == (p.length : Int)) = true from beq_self_eq_true _]
      have S2 := Lib.hid (S1.out.grow b2)
      clear b2 S1
      go_wp2_with fail
      refine (inBytes_any pi _ p o _ _ S2.out.head (by omega)).mono ?_
      rintro e w3 ⟨xo, xc, rfl, ho3, b3⟩
      have S3 := Lib.hid (S2.out.own b3 ho3)
      clear b3 S2 ho3
      go_wp2_with fail
      refine (same_yes xo ao xc cap p _ (show OwnB w3 w2.heap.size xo xc p from S3.out.head).at (Hp.out.below S3.out.b) (by omega)).mono ?_
      rintro e w4 ⟨rfl, b4⟩
      have S4 := Lib.hid (S3.out.grow b4)
      clear b4 S3
      go_wp2_with fail
      refine (known_any _).mono ?_
      rintro e w5 ⟨rfl, b5⟩
      have Hb := Lib.hid (S4.out.grow b5).b
      clear b5
      go_wp2_with fail
      go_ret
      exact ⟨rfl, Hb.out⟩

namespace PieceAllLift
open Go.ChangeShapes Go.WideShapes Go.ChangeAt Go.RowKit Go.Joins Go.Deep
open Go.ChangeMaps (open_string shut_string)

theorem own : ownKnob Try.prog.godebug = none := by kernel_rfl
theorem laidOut : laidOutB Try.prog = true := by kernel_rfl

set_option maxHeartbeats 1000000 in
set_option maxRecDepth 100000 in
theorem lifted (os : Os) (started : os.Started) (H : Type) (enc : TypeId × Value → H) :
    ReturnsInHanded {} Try.checked os 5 .any (Rows.pieceAllSpec.pre6 enc Try.prog Try.f5 Rows.pieceAllRow.domain false) (Rows.pieceAllSpec.post enc Try.prog Try.f5 false true false false) := by
  refine returnsInHanded_of_change (C := Try.checked) own started (by kernel_rfl) Try.func5
    (ChangeSpec.witness6 (enc := enc) (C := Try.checked) false ⟨#[], #[.slice none 0 0, .slice none 0 0], []⟩ 8 (by kernel_rfl) (by kernel_rfl) (by kernel_rfl) (by kernel_rfl)) ?_
  intro W base args ds gs before hval0 hW hcnd _
  have hval : ∀ (j : Nat) t v, Try.f5.params[j]? = some t → args[j]? = some v → Value.okWide Try.prog W .any base t v := hval0
  have hW' := hW
  obtain ⟨p, q, hA0, hV, rfl, hfz, hnd⟩ := hW
  have hA : DataW.TrodAll enc Try.prog W 0 (fun _ => true) true Try.f5.params.toList args.toList ds p := hA0
  rw [Try.params5] at hA hval
  obtain ⟨v0, vs0, d0, ds0, p0, q0, hargs, rfl, rfl, h0, r0⟩ := trodAll_cons hA
  obtain ⟨v1, vs1, d1, ds1, p1, q1, rfl, rfl, rfl, h1, r1⟩ := trodAll_cons r0
  obtain ⟨rfl, rfl, rfl⟩ := trodAll_nil r1
  obtain rfl : args = #[v0, v1] := by cases args; simp_all
  obtain ⟨rfl, rfl⟩ := trodVars_none hV
  have k0 := h0
  have lt0 : ∀ x ∈ p0, x.block < W.heap.size := by obtain ⟨m, hm⟩ := k0; exact DataW.trod_lt m _ _ _ hm
  have k1 := h1
  have lt1 : ∀ x ∈ p1, x.block < W.heap.size := by obtain ⟨m, hm⟩ := k1; exact DataW.trod_lt m _ _ _ hm
  have post : ∀ e W', e = Ending.returned (.bool true) → Below W.heap.size W W' → ∃ v, e = .returned v ∧ Rows.pieceAllSpec.post enc Try.prog Try.f5 false true false false W #[v0, v1] v W' := by
    intro e W' he bel
    subst he
    exact ⟨_, rfl, _, _, _, [], _, [], hW', trodAll_mk1 (shut_bool Try.underlying4 _), (trodAll_cons_mk (Below.trod laidOut (by kernel_rfl) (of_decide_eq_true (by kernel_rfl)) k0 bel lt0) (trodAll_cons_mk (Below.trod laidOut (by kernel_rfl) (of_decide_eq_true (by kernel_rfl)) k1 bel lt1) trodAll_mk0)), rfl, bel.frame _, fun h => by cases h⟩
  clear hW' hcnd hfz hnd hA0 hA hval0
  obtain ⟨ao, l, cap, rfl, hlc, hcm, hn0, hl⟩ := open_bytes (hval 0 22 v0 rfl rfl) h0
  obtain ⟨bo, A, bcap, rfl, hAc, hAm, hrow⟩ := open_intsB (hval 1 23 v1 rfl rfl) h1
  exact (all_walk ao cap l bo bcap A W hn0 hl (by unfold maxLen at hcm; omega) (by unfold maxLen at hAm; omega) hrow).mono fun e W' ⟨he, bel⟩ => post e W' he bel

theorem over : Rows.pieceAllRow.holds Try.pinned (OpenSpec.ofChange Rows.pieceAllSpec) :=
  OpenClaim.holds_of_wide 5 Try.f5 rfl rfl rfl rfl rfl rfl rfl ⟨rfl, rfl, rfl, rfl, rfl⟩ rfl rfl rfl rfl rfl (by kernel_rfl) Try.func5 (by kernel_rfl)
    (of_decide_eq_true (by kernel_rfl)) (by unfold Func.isWrapper; first | (rw [if_pos (by decide +kernel)]; kernel_rfl) | (rw [if_neg (by decide +kernel)]; exact ⟨rfl, rfl⟩))
    (fun os started H enc _ => lifted os started H enc)
end PieceAllLift

/-- The statement. -/
theorem pieceAll_holds : Rows.PieceAllSaid := PieceAllLift.over
#print axioms pieceAll_holds
end Go.Proofs.Ytclbplodbmldpaa
