/- The document's Send. -/
import Derived.Test.YtcboflabjdiadaaRNo
namespace Go.Proofs.Ytcboflabjdiadaa
open Go.RowKit

def RSendPost (W : World) (R : List Th) (p : Nat) (l M : List Ms) (e : Ending) (w' : World) : Prop := ∃ ro' rc' N, e = .returned (.int .i64 (fits l.length M.length : Nat)) ∧ N.map ct = (M.take (fits l.length M.length)).map ct ∧ St W w' (netrefL W.heap.size p ro' rc' (l ++ N) ++ R)
theorem row_grow {w w' : World} {base n cap : Nat} {e : TypeId} {size : Nat} {ro : Option Addr} {xs : List Value} (h : w.ownsRow base e size (.slice ro n cap) n xs) (b : Below w.heap.size w w') : w'.ownsRow base e size (.slice ro n cap) n xs :=
  (thRow base e size ro n cap xs).stay h (keeps_same0 b (fun _ => False)) (fun _ _ h => h)
theorem St.rlaidN {W wa w9 w2 : World} {R : List Th} {p rc g c2 cc n : Nat} {ro co : Option Addr} {l : List Ms} {f t : Int} {bs : List UInt8} {sp : Bool} (h : St W wa (netrefL W.heap.size p ro rc l ++ R)) (hb : Below wa.heap.size wa w9) (ho : OwnB w9 wa.heap.size co cc bs) (K2 : Keeps w9 w2 (fun x => ∃ a, ro = some a ∧ a.block = x)) (hn : n = l.length)
    (hown : w2.ownsRow W.heap.size 72 4 (.slice (some ⟨g, 0, none⟩) (n + 1) c2) (n + 1) (msR l ++ msV ⟨f, t, co, cc, bs, sp⟩)) (hgo : (∃ a, ro = some a ∧ a.block = g) ∨ w9.heap.size ≤ g) :
    St W (w2.setCell ⟨p, 0, none⟩ (.slice (some ⟨g, 0, none⟩) (n + 1) c2)) (netrefL W.heap.size p (some ⟨g, 0, none⟩) c2 (l ++ [⟨f, t, co, cc, bs, sp⟩]) ++ R) := by
  subst hn
  have S9 := St.new h hb (thD W.heap.size ⟨f, t, co, cc, bs, sp⟩) (own_weak ho h.b.size) (fun x ⟨a, ha, hx⟩ => hx ▸ (own_lt ho a.block (by rw [show co = some a from ha]; rfl)).2)
  exact St.rlaid S9 K2 hown hgo
set_option maxRecDepth 20000 in
set_option maxHeartbeats 4000000 in
theorem rsend_any (W w : World) (R : List Th) (p : Nat) (ro : Option Addr) (rc : Nat) (l : List Ms) (mo : Option Addr) (mc : Nat) (M : List Ms) (h : St W w (netrefL W.heap.size p ro rc l ++ R)) (hl : l.length ≤ 1024) (hM : ∀ w' X, St W w' (X ++ R) → MsAt w' mo M) (hMm : M.length ≤ 9223372036854775807) :
    Calls Try.prog 28 #[.pointer (some ⟨p, 0, none⟩), .slice mo M.length mc] w (RSendPost W R p l M) := by
  obtain ⟨i0, hi, hz0, hz1, hz2⟩ := info_parts itemInfo
  have H := Lib.hid h
  have HM := Lib.hid hM
  clear h hM
  go_enter Try.func28, Try.ntmps28
  go_wp2_with fail
  go_loopw [5, 6] (fun s5 s6 wr => ∃ (k : Nat) (ro' : Option Addr) (rc' : Nat) (N : List Ms), s6 = .int .i64 k ∧ s5 = .int .i64 k ∧ k ≤ M.length ∧ l.length + k ≤ 1024 ∧ Hid (N.map ct = (M.take k).map ct) ∧ Hid (St W wr (netrefL W.heap.size p ro' rc' (l ++ N) ++ R))) (fun _ s6 _ => M.length - (intOf s6).toNat)
  case atStart => exact ⟨0, ro, rc, [], rfl, rfl, by omega, by omega, rfl, by simpa [Hid] using H⟩
  case round =>
    obtain ⟨k, ro', rc', N, rfl, rfl, hk, hk2, HN, S⟩ := hrel
    have hNm : N.length = k := by
      have h1 := congrArg List.length HN.out
      simp only [List.length_map, List.length_take] at h1
      omega
    obtain ⟨ll, hll⟩ : ∃ ll, ll = l ++ N := ⟨_, rfl⟩
    obtain ⟨n, hn⟩ : ∃ n, n = ll.length := ⟨_, rfl⟩
    have hnk : n ≤ l.length + k := by rw [hn, hll, List.length_append]; omega
    have hnk2 : l.length + k ≤ n := by rw [hn, hll, List.length_append]; omega
    rw [← hll] at S
    have hT : (thNetref W.heap.size p ro' rc' ll).T wr := S.out.head
    obtain ⟨d0, g0⟩ := cell_of_one hT.1
    have wa_p := lt_of_block hT.1
    have hrow := hT.2.1
    have hWw := S.out.b.size
    rw [← hn] at d0 hrow
    have HR := Lib.hid hrow
    have Hnp : Hid (¬ ∃ a, ro' = some a ∧ a.block = p) := Lib.hid (fun ⟨a, ha, hx⟩ => hT.2.2 a ha hx)
    have Hll := Lib.hid hll
    have HNl := Lib.hid hn
    have HNm := Lib.hid hNm
    clear hNm H hT hrow hll hn
    by_cases hlt : k < M.length
    · by_cases hfull : n < 1024
      · obtain ⟨b, off, rfl, hb, hr⟩ := HM.out wr _ S.out (by omega)
        obtain ⟨c0, c1, c2, n0, hat, hml, hsp⟩ := hr k hlt
        obtain ⟨f, t, ao, cap, bs, sp, hq⟩ : ∃ f t ao cap bs sp, (⟨f, t, ao, cap, bs, sp⟩ : Ms) = M[k] := ⟨_, _, _, _, _, _, rfl⟩
        rw [← hq] at c0 c1 c2 n0 hat hml hsp
        simp only at c0 c1 c2 n0 hat hml hsp
        subst hsp
        have Hq := Lib.hid hq
        have Hn0 := Lib.hid n0
        have Hat := Lib.hid hat
        have e1 : decide ((n : Int) < 1024) = true := by rw [decide_eq_true_eq]; omega
        have HR9 : Hid (∀ w9, Below wr.heap.size wr w9 → w9.ownsRow W.heap.size 72 4 (.slice ro' n rc') n (msR ll)) := Lib.hid (fun w9 b => row_grow HR.out b)
        obtain ⟨wa, rfl⟩ : ∃ wa : World, wa = wr := ⟨_, rfl⟩
        clear hr hq n0 hat
        go_wp2_with fail
        go_region_law (first | ((refine at_goN 40 _ _ (by rfl) ?_); go_simp; go_at_call 40; (refine (rownM_any f t ao cap bs _ Hn0.out (Hat.out.below (Below.refl _ _).drew) hml).mono ?_); (rintro e w9 ⟨co, cc, rfl, ho, hb9⟩); (have hb9' : Below wa.heap.size wa w9 := (Below.refl _ _).drew.trans hb9); (have HO9 := Lib.hid ho); (obtain ⟨xc, xf⟩ := bcell hb9'); (have p0 := (xc p 0 wa_p).trans d0); (have pf := (xf p 0 wa_p).trans g0); (have hs9 := hb9'.size); (have p9 : p < w9.heap.size := (by omega)); (have HB9 := Lib.hid hb9'); clear ho hb9 hb9' xc xf) | ((go_must (refine step_append_lies _ rfl (.tmp 25) (.tmp 32) 48 rfl W.heap.size 72 i0 (.agg #[.int .i64 0, .int .i64 0, .slice none 0 0, .bool false]) 4 48 Try.underlying48 hi hz0 hz1 hz2 rfl ?_ (.slice ro' n rc') n (msR ll) ?_ ((HR9.out w9 HB9.out).alloc _) ⟨w9.heap.size, 0, none⟩ 1 1 (msV ⟨f, t, co, cc, bs, false⟩) ?_ rfl (World.news_of_block (heap_new w9 _)) (msV_one _) ?_ ?_ ?_ ?_ (w9.heap.size + 1) ?_ ?_)); (focus (decide)); (focus (rfl)); (focus (rfl)); (focus (decide)); (focus ((unfold maxLen); omega)); (focus (omega)); (focus first | (simp; done) | (simp; omega)); (focus (simp; done)); intro g c2 w2 hown hgrow hg hglt; (have K2 : Keeps w9 w2 (fun x => ∃ a, ro' = some a ∧ a.block = x) := keeps_rowR w9 _ hgrow); (have k4 := (K2.cell (p := ⟨p, 0, none⟩) p9 Hnp.out).trans p0); (have k5 := (K2.frozen (p := ⟨p, 0, none⟩) p9 Hnp.out).trans pf); (have HK2 := Lib.hid K2); (have HOW := Lib.hid hown); (have HGG : Hid ((∃ a, ro' = some a ∧ a.block = g) ∨ w9.heap.size ≤ g) := (by rcases hg with h1 | h1; (exact .inl (ownBlock_of h1)); (exact .inr (by omega)))); clear hown hgrow hg K2) | fail)
        all_goals
          have hS := Lib.hid (St.rlaidN S.out HB9.out HO9.out HK2.out HNl.out HOW.out HGG.out)
          clear HOW HGG HK2 HO9
          go_wp2_with fail
          go_roundw
          case rel => exact ⟨k + 1, some ⟨g, 0, none⟩, c2, N ++ [⟨f, t, co, cc, bs, false⟩], by go_num, by go_num, by omega, by omega, (by
            show List.map ct (N ++ _) = _
            rw [List.map_append, HN.out, List.take_succ_eq_append_getElem hlt, List.map_append, ← Hq.out]
            rfl), by rw [← List.append_assoc, ← Hll.out]; exact hS⟩
          case measure => simp [intOf]; omega
      · have e1 : decide ((n : Int) < 1024) = false := by rw [decide_eq_false_iff_not]; omega
        go_wp2_with fail
        go_ret
        have hkf : k = fits l.length M.length := by unfold fits; omega
        refine ⟨ro', rc', N, by rw [← hkf]; rfl, by rw [← hkf]; exact HN.out, ?_⟩
        rw [← Hll.out]; exact S.out
    · obtain rfl : k = M.length := by omega
      go_wp2_with fail
      go_ret
      have hkf : M.length = fits l.length M.length := by unfold fits; omega
      refine ⟨ro', rc', N, by rw [← hkf]; rfl, by rw [← hkf]; exact HN.out, ?_⟩
      rw [← Hll.out]; exact S.out
end Go.Proofs.Ytcboflabjdiadaa
