/- The law FrameTears: of records that are cut short anywhere Scan tells those that are whole. -/
import Derived.Test.YtgbhbhmjolihnaaRowsLaw
namespace Go.Proofs.Ytgbhbhmjolihnaa
open Go.RowKit Go.Joins

def lenF (L : List RowR) (i : Nat) : Nat := (framesB (bsOf (L.take i))).length
def endsV (L : List RowR) (k : Nat) : List Value := (List.range k).map fun i => .int .i64 (lenF L (i + 1) : Nat)
theorem endsV_length (L : List RowR) (k : Nat) : (endsV L k).length = k := by simp [endsV]
theorem endsV_next (L : List RowR) (k : Nat) : endsV L (k + 1) = endsV L k ++ [.int .i64 (lenF L (k + 1) : Nat)] := by simp [endsV, List.range_succ]
theorem endsV_get (L : List RowR) (k i : Nat) (h : i < k) : (endsV L k)[i]? = some (.int .i64 (lenF L (i + 1) : Nat)) := by simp [endsV, h]
theorem lenF_next (L : List RowR) (k : Nat) (h : k < L.length) : lenF L (k + 1) = lenF L k + (L[k].bs.length + 12) := by
  unfold lenF
  rw [framesB_step L k h, List.length_append, frameB_length]
theorem lenF_zero (L : List RowR) : lenF L 0 = 0 := by simp [lenF, bsOf, framesB]
theorem framesB_split (L : List RowR) (k : Nat) (h : k < L.length) : ∃ r, framesB (bsOf L) = framesB (bsOf (L.take k)) ++ (frameB L[k].bs ++ r) := by
  refine ⟨framesB (bsOf (L.drop (k + 1))), ?_⟩
  have e : L = L.take k ++ (L[k] :: L.drop (k + 1)) := by rw [← List.drop_eq_getElem_cons h, List.take_append_drop]
  have e2 : bsOf L = bsOf (L.take k) ++ (L[k].bs :: bsOf (L.drop (k + 1))) := by
    conv => lhs; rw [e]
    simp only [bsOf, List.map_append, List.map_cons]
  rw [e2]
  simp [framesB]
/-- What the scan of the cut records tells. -/
theorem scan_torn (L : List RowR) (h : ∀ p ∈ bsOf L, p.length ≤ 1048576) (n k : Nat) (hn : n ≤ L.length) (hk : k ≤ (framesB (bsOf L)).length) (h1 : lenF L n ≤ k) (h2 : n < L.length → k < lenF L (n + 1)) :
    scanB ((framesB (bsOf L)).take k) = (bsOf (L.take n), lenF L n) := by
  have ht : ∀ p ∈ bsOf (L.take n), p.length ≤ 1048576 := fun p hp => h p (by
    simp only [bsOf, List.mem_map] at hp ⊢
    obtain ⟨r, hr, e⟩ := hp
    exact ⟨r, List.mem_of_mem_take hr, e⟩)
  by_cases hlt : n < L.length
  · obtain ⟨r, hr⟩ := framesB_split L n hlt
    have h3 := h2 hlt
    rw [lenF_next L n hlt] at h3
    have hb : L[n].bs.length ≤ 1048576 := h _ (by simp only [bsOf, List.mem_map]; exact ⟨L[n], List.getElem_mem hlt, rfl⟩)
    have e : (framesB (bsOf L)).take k = framesB (bsOf (L.take n)) ++ (frameB L[n].bs).take (k - lenF L n) := by
      rw [hr, List.take_append, List.take_of_length_le (by exact h1), List.take_append_of_le_length (by rw [frameB_length]; show k - lenF L n ≤ _; omega)]
      rfl
    rw [e, scan_cut _ ht _ hb _ (by omega)]
    rfl
  · have hnL : L.take n = L := List.take_of_length_le (by omega)
    have e : (framesB (bsOf L)).take k = framesB (bsOf L) := List.take_of_length_le (by
      have : lenF L n = (framesB (bsOf L)).length := by unfold lenF; rw [hnL]
      omega)
    rw [e, scan_all _ h]
    unfold lenF
    rw [hnL]
theorem Sl.take {w : World} {ao : Option Addr} {cap : Nat} {l : List UInt8} (h : Sl w ao cap l) (k : Nat) : Sl w ao cap (l.take k) := by
  have hl : (l.take k).length ≤ l.length := by rw [List.length_take]; omega
  refine ⟨Nat.le_trans hl h.le, h.cm, fun e => ?_, fun hp => ?_⟩
  · obtain ⟨h1, h2⟩ := h.n0 e
    exact ⟨by omega, h2⟩
  · obtain ⟨b, off, e, hb, hr⟩ := h.at_ (by omega)
    refine ⟨b, off, e, hb, fun i hi => ?_⟩
    rw [List.getElem_take]
    exact hr i (by omega)
theorem intMaskT (x : Int) : ∃ m : Nat, bits .and .i64 x 1073741823 = m ∧ m ≤ 1073741823 := by
  refine ⟨(BitVec.ofInt 64 x &&& BitVec.ofInt 64 1073741823).toNat, ?_, ?_⟩
  · show IntKind.i64.wrap ((BitVec.ofInt 64 x &&& BitVec.ofInt 64 1073741823).toNat : Int) = _
    have h : (BitVec.ofInt 64 x &&& BitVec.ofInt 64 1073741823).toNat ≤ 1073741823 := by
      rw [BitVec.toNat_and]; exact Nat.and_le_right
    rw [IntKind.wrap_i64]; omega
  · rw [BitVec.toNat_and]; exact Nat.and_le_right
theorem intInfoF : (Try.prog.info? 3).map (fun i => (i.zero, i.size, i.bytes)) = some (some (.int .i64 0), 1, 8) := by kernel_rfl
set_option maxRecDepth 40000 in
set_option maxHeartbeats 8000000 in
theorem tears_walk (ao : Option Addr) (ca : Nat) (L : List RowR) (at_ : Int) (w0 : World) (hr : RsAt w0 (fun x => x < w0.heap.size) ao L) (hLc : L.length ≤ ca) (hcm : ca ≤ 9223372036854775807) (hLm : L.length ≤ 140737488355328 / 24) :
    Calls Try.prog 5 #[.slice ao L.length ca, .int .i64 at_] w0 fun e w' => e = .returned (.bool true) ∧ Below w0.heap.size w0 w' := by
  obtain ⟨i0, hi, hz0, hz1, hz2⟩ := info_parts byteInfo
  obtain ⟨j0, hj, hy0, hy1, hy2⟩ := info_parts intInfoF
  have Hr := Lib.hid hr
  obtain ⟨m30, hmask, hm30⟩ := intMaskT at_
  have hLm2 : L.length ≤ 5864062014806 := by omega
  clear hr hLm
  go_enter Try.func5, Try.ntmps5
  go_wp2_with fail
  go_loopw [5, 6, 7] (fun s5 s6 s7 wr => ∃ (k : Nat) (po : Option Addr) (pc n : Nat) (eo : Option Addr) (ec : Nat), s7 = .int .i64 k ∧ s5 = .slice po n pc ∧ s6 = .slice eo k ec ∧ k ≤ L.length ∧ n ≤ 4000 ∧ Hid (n = lenF L k) ∧ Hid (∀ p ∈ bsOf (L.take k), p.length ≤ 1048576) ∧ Hid (St w0 wr [thOwn w0.heap.size po pc (framesB (bsOf (L.take k))), thRow w0.heap.size 3 1 eo k ec (endsV L k)])) (fun _ _ s7 _ => L.length - (intOf s7).toNat)
  case atStart => exact ⟨0, none, 0, 0, none, 0, rfl, rfl, rfl, by omega, by omega, rfl, (by intro p hp; simp [bsOf] at hp), ((St.start w0).nilRow _ _).nil⟩
  case round =>
    obtain ⟨k, po, pc, n, eo, ec, rfl, rfl, rfl, hk, hn4, Hn, Hle, S⟩ := hrel
    have hs := S.out.b.size
    by_cases hlt : k < L.length
    · obtain ⟨b, off, rfl, hb, -, hrow⟩ := Hr.out (by omega)
      obtain ⟨ro, rc, rb, hrr⟩ : ∃ ro rc rb, (⟨ro, rc, rb⟩ : RowR) = L[k] := ⟨_, _, _, rfl⟩
      have hra := hrow k hlt
      rw [← hrr] at hra
      have c0 := (S.out.b.cell (p := ⟨b, off + k, none⟩) hb).trans hra.c
      simp only at c0
      have hf := framesB_step L k hlt
      have hle : rb.length ≤ 4000 → ∀ p ∈ bsOf (L.take (k + 1)), p.length ≤ 1048576 := fun h => le_take hlt Hle.out (by rw [← hrr]; exact h)
      rw [← hrr] at hf
      have Hf := Lib.hid hf
      have Hle1 := Lib.hid hle
      have HR := Lib.hid (⟨hra.le, hra.cm, hra.n0, hra.at_.at.below S.out.b⟩ : Sl wr ro rc rb)
      clear hf hle hrr hra hrow
      by_cases h1 : (4000 : Int) < rb.length
      · go_wp2_with fail
        go_ret
        exact ⟨rfl, S.out.b⟩
      have hs1 := rs_one HR.out 22 wr.heap.size rfl
      have henc := encode_any (some ⟨wr.heap.size, 0, none⟩) 1 [⟨ro, rc, rb⟩] _ _ hs1 (by simp) (by simp) (by rw [flat_one1]; omega)
      rw [flat_one1] at henc
      unfold EncPost at henc
      have hfl : (frameB rb).length = rb.length + 12 := frameB_length rb
      obtain ⟨f, hf⟩ : ∃ f, f = frameB rb := ⟨_, rfl⟩
      obtain ⟨m, hm⟩ : ∃ m, m = f.length := ⟨_, rfl⟩
      rw [← hf, ← hm] at henc hfl
      have Hff := Lib.hid hf
      have Hm := Lib.hid hm
      have Henc := Lib.hid henc
      have hm1 : m ≤ 4012 := by omega
      clear hs1 henc hf hm hfl
      go_wp2_with fail
      refine Henc.out.mono ?_
      rintro e w1 ⟨xo, xc, rfl, ho, hb1⟩
      have hb1' : Below wr.heap.size wr w1 := (below_allocF wr _).trans (hb1.mono (by simp))
      have HX := Lib.hid ho.sl
      have S1 := Lib.hid (S.out.grow hb1')
      have hown : OwnB w1 w0.heap.size po pc (framesB (bsOf (L.take k))) := S1.out.head
      unfold OwnB at hown
      rw [show (framesB (bsOf (L.take k))).length = n from Hn.out.symm] at hown
      have Hown := Lib.hid hown
      have s1 := S1.out.b.size
      clear ho hb1 hb1' hown Henc S
      simp only
      go_wp2_with (at_builtin; go_must (refine wpList_append_foot _ rfl (.tmp 38) (.tmp 39) 22 rfl w0.heap.size 5 i0 (.int .u8 0) 1 1 Try.underlying22 hi hz0 hz1 hz2 rfl (by decide) po n pc (bytV (framesB (bsOf (L.take k)))) rfl Hown.out xo m xc (bytV f) rfl (fun h => by have := HX.out.n0 h; have := Hm.out; omega) (by rw [bytV_length, ← Hm.out, Nat.mul_one]) (BAt.cells HX.out.at_) (bytV_one _) (by unfold maxLen; omega) (by omega) s1 ?_))
      intro co c' w2 hown hgrow hco
      have hl1 : n + m = lenF L (k + 1) := by unfold lenF; rw [Hf.out, List.length_append, Hn.out, Hm.out, Hff.out]; rfl
      have hS2 : St w0 w2 [thOwn w0.heap.size co c' (framesB (bsOf (L.take (k + 1)))), thRow w0.heap.size 3 1 eo k ec (endsV L k)] := by
        rw [Hf.out, ← Hff.out]
        have e1 : (framesB (bsOf (L.take k))).length = n := Hn.out.symm
        refine S1.out.appended (l := framesB (bsOf (L.take k))) (news := f) (c' := c') (co := co) ?_ ?_ hco
        · rw [e1, ← Hm.out]; exact hown
        · rw [e1]; exact hgrow
      have S2 := Lib.hid (hS2.pull (A := [_]))
      have Hl1 := Lib.hid hl1
      have s2 := hS2.b.size
      have hrowE : w2.ownsRow w0.heap.size 3 1 (.slice eo k ec) k (endsV L k) := S2.out.head
      have HrowE := Lib.hid hrowE
      clear hown hgrow hco hl1 hS2 hrowE S1
      by_cases h2 : (4000 : Int) < (n : Int) + m
      · go_wp2_with fail
        go_ret
        exact ⟨rfl, S2.out.b⟩
      go_wp2_with (at_builtin; go_must (refine wpList_append_foot _ rfl (.tmp 44) (.tmp 47) 36 rfl w0.heap.size 3 j0 (.int .i64 0) 1 8 Try.underlying36 hj hy0 hy1 hy2 rfl (by decide) eo k ec (endsV L k) rfl (HrowE.out.alloc _) (some ⟨w2.heap.size, 0, none⟩) 1 1 [.int .i64 ((n : Int) + m)] rfl (fun h => (nomatch h)) rfl (one_val w2 _ _) (by simp [Value.oneCell']) (by unfold maxLen; omega) (by omega) (by simp; omega) ?_))
      intro eo2 ec2 w3 hown hgrow hco
      have hS3 := (S2.out.grow (below_allocF w2 _)).appendedRow hown hgrow (by intro g hg; have := hco g hg; simpa using this)
      have he : endsV L k ++ [.int .i64 ((n : Int) + m)] = endsV L (k + 1) := by rw [endsV_next, ← Hl1.out]; push_cast; rfl
      rw [he] at hS3
      have S3 := Lib.hid (hS3.pull (A := [_]))
      clear hown hgrow hco he hS3 S2 HrowE
      go_wp2_with fail
      go_roundw
      case rel => exact ⟨k + 1, co, c', n + m, eo2, ec2, by go_num, rfl, rfl, by omega, by omega, Hl1, Hle1.out (by omega), S3⟩
      case measure => simp [intOf]; omega
    · have hkL : k = L.length := by omega
      subst hkL
      have htk : L.take L.length = L := List.take_length
      rw [htk] at Hle S
      have hnl : n = (framesB (bsOf L)).length := by have := Hn.out; unfold lenF at this; rwa [htk] at this
      clear htk hlt Hn
      obtain ⟨all, hall⟩ : ∃ all, all = framesB (bsOf L) := ⟨_, rfl⟩
      rw [← hall] at S hnl
      have Hall := Lib.hid hall
      have Hnl := Lib.hid hnl
      obtain ⟨kk, hkk⟩ : ∃ kk : Nat, kk = m30 % (n + 1) := ⟨_, rfl⟩
      have hk1 : ((m30 : Int) % ((n : Int) + 1)) = kk := by rw [hkk]; push_cast; rfl
      have hk2 : ((m30 : Int).tmod ((n : Int) + 1)) = kk := by rw [Int.tmod_eq_emod_of_nonneg (by omega)]; exact hk1
      have hklt : kk < n + 1 := hkk ▸ Nat.mod_lt _ (by omega)
      have hn1 : ¬ ((n : Int) + 1) = 0 := by omega
      have hrowE : wr.ownsRow w0.heap.size 3 1 (.slice eo L.length ec) L.length (endsV L L.length) := (S.out.pull (A := [_])).head
      have hcE : ∀ i, i < L.length → ∃ g, eo = some ⟨g, 0, none⟩ ∧ wr.cell? ⟨g, i, none⟩ = some (.int .i64 (lenF L (i + 1) : Nat)) := by
        intro i hi
        rcases hrowE.2 with ⟨hv, h0⟩ | ⟨g, c, cur, hv, -⟩
        · omega
        · simp only [Value.slice.injEq] at hv
          obtain ⟨rfl, -, -⟩ := hv
          refine ⟨g, rfl, ?_⟩
          have := World.ownsRow.cellAt hrowE i (by omega)
          rwa [endsV_get L L.length i hi] at this
      have HcE := Lib.hid hcE
      have hpo := (show OwnB wr w0.heap.size po pc all from S.out.head)
      have hple := hpo.le
      have Hpo := Lib.hid hpo
      have hpc : n ≤ pc := by rw [hnl]; exact hple.1
      have hpc2 : pc ≤ 9223372036854775807 := hple.2
      clear hall hnl hkk hrowE hcE hpo hple
      go_wp2_with fail
      clear hk1 hk2
      go_loop [11] (fun s11 => ∃ nn : Nat, s11 = .int .i64 nn ∧ nn ≤ L.length ∧ Hid (lenF L nn ≤ kk)) (fun s11 => L.length - (intOf s11).toNat)
      case atStart => exact ⟨0, rfl, by omega, by rw [Hid, lenF_zero]; omega⟩
      case round =>
        obtain ⟨nn, rfl, hnn, Hnn⟩ := hrel
        by_cases hgo : nn < L.length ∧ lenF L (nn + 1) ≤ kk
        · obtain ⟨g1, g2⟩ := hgo
          obtain ⟨g, rfl, hc⟩ := HcE.out nn g1
          obtain ⟨v, hv⟩ : ∃ v, v = lenF L (nn + 1) := ⟨_, rfl⟩
          rw [← hv] at hc g2
          have Hv := Lib.hid hv
          clear hv
          go_wp2_with fail
          go_round
          case rel => exact ⟨nn + 1, by go_num, by omega, by rw [Hid, ← Hv.out]; exact g2⟩
          case measure => simp [intOf]; omega
        · have hex : nn < L.length → kk < lenF L (nn + 1) := fun h => by
            rcases Nat.lt_or_ge kk (lenF L (nn + 1)) with h1 | h1
            · exact h1
            · exact absurd ⟨h, h1⟩ hgo
          have hsc := scan_torn L Hle.out nn kk hnn (by rw [← Hall.out, ← Hnl.out]; omega) Hnn.out hex
          rw [← Hall.out] at hsc
          have Hsc := Lib.hid hsc
          have Hex := Lib.hid hex
          clear hex hsc hgo
          have hlk : (all.take kk).length = kk := by rw [List.length_take, ← Hnl.out]; omega
          have hscan := scanframe_any po pc (all.take kk) wr (Hpo.out.sl.take kk) (by omega)
          rw [Hsc.out, hlk] at hscan
          have Hscan := Lib.hid hscan
          have hln : (bsOf (L.take nn)).length = nn := by rw [bsOf_length, List.length_take]; omega
          have Hln := Lib.hid hln
          have hkn : kk ≤ n := by omega
          have hkp : kk ≤ pc := by omega
          have hkp2 : (kk : Int) ≤ pc := by omega
          have hnL : (nn : Int) ≤ L.length := by omega
          have hnc : nn ≤ ca := by omega
          have hnc2 : (nn : Int) ≤ ca := by omega
          obtain ⟨v, hv⟩ : ∃ v, v = lenF L nn := ⟨_, rfl⟩
          rw [← hv] at Hscan
          have Hv := Lib.hid hv
          clear hlk hscan hln hv Hsc
          by_cases hlt : nn < L.length
          · obtain ⟨g, rfl, hc⟩ := HcE.out nn hlt
            have hx := Hex.out hlt
            obtain ⟨u, hu⟩ : ∃ u, u = lenF L (nn + 1) := ⟨_, rfl⟩
            rw [← hu] at hc hx
            have hxi : ¬ (u : Int) ≤ kk := by omega
            clear hu
            rcases Nat.eq_zero_or_pos nn with h0 | h0
            · subst h0
              have hv0 : v = 0 := by rw [Hv.out, lenF_zero]
              subst hv0
              go_wp2_with fail
              (refine Hscan.out.mono ?_); (rintro e w1 ⟨lo, lc, A, rfl, hA, heA, hb⟩); (skip); (have HB1 := Lib.hid (S.out.b.trans (hb.mono hs))); (have hAl := congrArg List.length heA); (rw [List.length_map, Hln.out] at hAl); (have hrows := rows_yes lo ao lc ca A (L.take _) _ _ w1 (own_rows_at hA) ((Hr.out.below HB1.out).take _) (show bsOf A = bsOf _ from heA) (by omega)); (rw [show (L.take _).length = _ from (bsOf_length _).symm.trans Hln.out] at hrows); (have Hrows := Lib.hid hrows); (have s1 := HB1.out.size); (clear hA heA hb hAl hrows Hscan); simp only; (go_wp2_with fail); (refine Hrows.out.mono ?_); (rintro e w2 ⟨rfl, hb⟩); (have HB2 := Lib.hid (HB1.out.trans (hb.mono s1))); (have s2 := HB2.out.size); (clear hb Hrows); (go_wp2_with fail); (refine (known_any _).mono ?_); (rintro e w3 ⟨rfl, hb⟩); (have HB3 := Lib.hid (HB2.out.trans (hb.mono s2))); (clear hb); (go_wp2_with fail); go_ret; exact ⟨rfl, HB3.out⟩
            · obtain ⟨q, rfl⟩ : ∃ q, nn = q + 1 := ⟨nn - 1, by omega⟩
              obtain ⟨g', hg', hcq⟩ := HcE.out q (by omega)
              simp only [Option.some.injEq, Addr.mk.injEq, and_true] at hg'
              obtain rfl := hg'
              rw [← Hv.out] at hcq
              have Hcq := Lib.hid hcq
              have hgw := lt_of_cellB hcq
              have hq0 : 0 < q + 1 := by omega
              have hq1 : ((q + 1 : Nat) : Int) - 1 = q := by omega
              have hq2 : (q : Int) + 1 - 1 = q := by omega
              have hqL : q < L.length := by omega
              clear hcq
              go_wp2_with fail
              (refine Hscan.out.mono ?_); (rintro e w1 ⟨lo, lc, A, rfl, hA, heA, hb⟩); (have cq := (hb.cell (p := ⟨g, q, none⟩) hgw).trans Hcq.out); (have HB1 := Lib.hid (S.out.b.trans (hb.mono hs))); (have hAl := congrArg List.length heA); (rw [List.length_map, Hln.out] at hAl); (have hrows := rows_yes lo ao lc ca A (L.take _) _ _ w1 (own_rows_at hA) ((Hr.out.below HB1.out).take _) (show bsOf A = bsOf _ from heA) (by omega)); (rw [show (L.take _).length = _ from (bsOf_length _).symm.trans Hln.out] at hrows); (have Hrows := Lib.hid hrows); (have s1 := HB1.out.size); (clear hA heA hb hAl hrows Hscan); simp only; (go_wp2_with fail); (refine Hrows.out.mono ?_); (rintro e w2 ⟨rfl, hb⟩); (have HB2 := Lib.hid (HB1.out.trans (hb.mono s1))); (have s2 := HB2.out.size); (clear hb Hrows); (go_wp2_with fail); (refine (known_any _).mono ?_); (rintro e w3 ⟨rfl, hb⟩); (have HB3 := Lib.hid (HB2.out.trans (hb.mono s2))); (clear hb); (go_wp2_with fail); go_ret; exact ⟨rfl, HB3.out⟩
          · rcases Nat.eq_zero_or_pos nn with h0 | h0
            · subst h0
              have hv0 : v = 0 := by rw [Hv.out, lenF_zero]
              subst hv0
              go_wp2_with fail
              (refine Hscan.out.mono ?_); (rintro e w1 ⟨lo, lc, A, rfl, hA, heA, hb⟩); (skip); (have HB1 := Lib.hid (S.out.b.trans (hb.mono hs))); (have hAl := congrArg List.length heA); (rw [List.length_map, Hln.out] at hAl); (have hrows := rows_yes lo ao lc ca A (L.take _) _ _ w1 (own_rows_at hA) ((Hr.out.below HB1.out).take _) (show bsOf A = bsOf _ from heA) (by omega)); (rw [show (L.take _).length = _ from (bsOf_length _).symm.trans Hln.out] at hrows); (have Hrows := Lib.hid hrows); (have s1 := HB1.out.size); (clear hA heA hb hAl hrows Hscan); simp only; (go_wp2_with fail); (refine Hrows.out.mono ?_); (rintro e w2 ⟨rfl, hb⟩); (have HB2 := Lib.hid (HB1.out.trans (hb.mono s1))); (have s2 := HB2.out.size); (clear hb Hrows); (go_wp2_with fail); (refine (known_any _).mono ?_); (rintro e w3 ⟨rfl, hb⟩); (have HB3 := Lib.hid (HB2.out.trans (hb.mono s2))); (clear hb); (go_wp2_with fail); go_ret; exact ⟨rfl, HB3.out⟩
            · obtain ⟨q, rfl⟩ : ∃ q, nn = q + 1 := ⟨nn - 1, by omega⟩
              obtain ⟨g, rfl, hcq⟩ := HcE.out q (by omega)
              rw [← Hv.out] at hcq
              have Hcq := Lib.hid hcq
              have hgw := lt_of_cellB hcq
              have hq0 : 0 < q + 1 := by omega
              have hq1 : ((q + 1 : Nat) : Int) - 1 = q := by omega
              have hq2 : (q : Int) + 1 - 1 = q := by omega
              have hqL : q < L.length := by omega
              clear hcq
              go_wp2_with fail
              (refine Hscan.out.mono ?_); (rintro e w1 ⟨lo, lc, A, rfl, hA, heA, hb⟩); (have cq := (hb.cell (p := ⟨g, q, none⟩) hgw).trans Hcq.out); (have HB1 := Lib.hid (S.out.b.trans (hb.mono hs))); (have hAl := congrArg List.length heA); (rw [List.length_map, Hln.out] at hAl); (have hrows := rows_yes lo ao lc ca A (L.take _) _ _ w1 (own_rows_at hA) ((Hr.out.below HB1.out).take _) (show bsOf A = bsOf _ from heA) (by omega)); (rw [show (L.take _).length = _ from (bsOf_length _).symm.trans Hln.out] at hrows); (have Hrows := Lib.hid hrows); (have s1 := HB1.out.size); (clear hA heA hb hAl hrows Hscan); simp only; (go_wp2_with fail); (refine Hrows.out.mono ?_); (rintro e w2 ⟨rfl, hb⟩); (have HB2 := Lib.hid (HB1.out.trans (hb.mono s1))); (have s2 := HB2.out.size); (clear hb Hrows); (go_wp2_with fail); (refine (known_any _).mono ?_); (rintro e w3 ⟨rfl, hb⟩); (have HB3 := Lib.hid (HB2.out.trans (hb.mono s2))); (clear hb); (go_wp2_with fail); go_ret; exact ⟨rfl, HB3.out⟩
namespace FrameTearsLift
open Go.ChangeShapes Go.WideShapes Go.ChangeAt Go.RowKit Go.Joins Go.Deep
open Go.ChangeMaps (open_string shut_string)

theorem own : ownKnob Try.prog.godebug = none := by kernel_rfl
theorem laidOut : laidOutB Try.prog = true := by kernel_rfl

set_option maxHeartbeats 1000000 in
set_option maxRecDepth 100000 in
theorem lifted (os : Os) (started : os.Started) (H : Type) (enc : TypeId × Value → H) :
    ReturnsInHanded {} Try.checked os 5 .any (Rows.frameTearsSpec.pre6 enc Try.prog Try.f5 Rows.frameTearsRow.domain false) (Rows.frameTearsSpec.post enc Try.prog Try.f5 false true false false) := by
  refine returnsInHanded_of_change_sized (C := Try.checked) own started (by kernel_rfl) Try.func5
    (ChangeSpec.witness6 (enc := enc) (C := Try.checked) false ⟨#[], #[.slice none 0 0, .int .i64 0], []⟩ 8 (by kernel_rfl) (by kernel_rfl) (by kernel_rfl) (by kernel_rfl)) ?_
  intro W base args ds gs before hval0 hW hcnd hsz0 _
  have hval : ∀ (j : Nat) t v, Try.f5.params[j]? = some t → args[j]? = some v → Value.okWide Try.prog W .any base t v := hval0
  have hW' := hW
  obtain ⟨p, q, hA0, hV, rfl, hfz, hnd⟩ := hW
  have hA : DataW.TrodAll enc Try.prog W 0 (fun _ => true) true Try.f5.params.toList args.toList ds p := hA0
  have hsz : (DataW.weightsEach Try.prog (Try.f5.params.toList ++ Rows.frameTearsSpec.plain.varTypes Try.prog) (ds ++ gs)).all (· ≤ reachBytes) = true := hsz0
  rw [Try.params5] at hA hval hsz
  obtain ⟨v0, vs0, d0, ds0, p0, q0, hargs, rfl, rfl, h0, r0⟩ := trodAll_cons hA
  obtain ⟨v1, vs1, d1, ds1, p1, q1, rfl, rfl, rfl, h1, r1⟩ := trodAll_cons r0
  obtain ⟨rfl, rfl, rfl⟩ := trodAll_nil r1
  obtain rfl : args = #[v0, v1] := by cases args; simp_all
  obtain ⟨rfl, rfl⟩ := trodVars_none hV
  have k0 := h0
  have lt0 : ∀ x ∈ p0, x.block < W.heap.size := by obtain ⟨m, hm⟩ := k0; exact DataW.trod_lt m _ _ _ hm
  have k1 := h1
  have lt1 : ∀ x ∈ p1, x.block < W.heap.size := by obtain ⟨m, hm⟩ := k1; exact DataW.trod_lt m _ _ _ hm
  have post : ∀ e W', e = Ending.returned (.bool true) → Below W.heap.size W W' → ∃ v, e = .returned v ∧ Rows.frameTearsSpec.post enc Try.prog Try.f5 false true false false W #[v0, v1] v W' := by
    intro e W' he bel
    subst he
    exact ⟨_, rfl, _, _, _, [], _, [], hW', trodAll_mk1 (shut_bool Try.underlying4 _), (trodAll_cons_mk (Below.trod laidOut (by kernel_rfl) (of_decide_eq_true (by kernel_rfl)) k0 bel lt0) (trodAll_cons_mk (Below.trod laidOut (by kernel_rfl) (of_decide_eq_true (by kernel_rfl)) k1 bel lt1) trodAll_mk0)), rfl, bel.frame _, fun h => by cases h⟩
  clear hW' hcnd hfz hnd hA0 hA hval0
  have hb24 : Try.prog.bytesOf 22 = 24 := by kernel_rfl
  obtain ⟨ao, L, ca, rfl, hLc, hcm, hn0, hr⟩ := open_rows (hval 0 30 v0 rfl rfl) h0
  obtain ⟨at_, rfl⟩ := okWide_int Try.underlying3 (hval 1 3 v1 rfl rfl)
  have ra := slice_reach hsz (j := 0) rfl rfl Try.underlying30 k0
  rw [hb24] at ra
  exact (tears_walk ao ca L at_ W hr hLc hcm (by omega)).mono fun e W' ⟨he, bel⟩ => post e W' he bel

theorem over : Rows.frameTearsRow.holds Try.pinned (OpenSpec.ofChange Rows.frameTearsSpec) :=
  OpenClaim.holds_of_wide 5 Try.f5 rfl rfl rfl rfl rfl rfl rfl ⟨rfl, rfl, rfl, rfl, rfl⟩ rfl rfl rfl rfl rfl (by kernel_rfl) Try.func5 (by kernel_rfl)
    (of_decide_eq_true (by kernel_rfl)) (by unfold Func.isWrapper; first | (rw [if_pos (by decide +kernel)]; kernel_rfl) | (rw [if_neg (by decide +kernel)]; exact ⟨rfl, rfl⟩))
    (fun os started H enc _ => lifted os started H enc)
end FrameTearsLift

/-- The statement. -/
theorem frameTears_holds : Rows.FrameTearsSaid := FrameTearsLift.over
#print axioms frameTears_holds
end Go.Proofs.Ytgbhbhmjolihnaa
