/- The contract of the document's Encode of a map. -/
import Derived.Test.YtobnibdeimiinaaOEn
import Derived.Test.YtobnibdeimiinaaOc
namespace Go.Proofs.Ytobnibdeimiinaa.O
open Go.RowKit
set_option maxRecDepth 20000

theorem refNums_eqO (vs : List Int) (w : World) (n k : Nat) (cur : Array Value) (hn : n = w.heap.size) (hk : k = vs.length) (hc : cur = (intV vs).toArray) (hm : vs.length ≤ 1000000) (X : List UInt8) (hX : encs vs = X) :
    Calls Try.prog 57 #[.slice (some ⟨n, 0, none⟩) k k] (w.alloc (.cells cur 3)) (FreshB w X) := refNums_eq vs w n k cur hn hk hc hm X hX
set_option maxHeartbeats 4000000 in
theorem rencM_any (ao : Option Addr) (zc : Nat) (m : Mp) (w : World) (h : ZsAt w ao m.zs) (hs : SzB m) :
    Calls Try.prog 27 #[.agg #[.int .i64 m.ver, .int .i64 m.next, .slice ao m.zs.length zc]] w (FreshB w (encM m)) := by
  obtain ⟨i0, hii, hz0, hz1, hz2⟩ := info_parts byteInfo
  have Hz := Lib.hid h
  have Hs := Lib.hid hs
  have hcv := conv_bytes
  obtain ⟨n, hn⟩ : ∃ n, n = m.zs.length := ⟨_, rfl⟩
  obtain ⟨nx, hnx⟩ : ∃ nx, nx = m.next := ⟨_, rfl⟩
  obtain ⟨ver, hver⟩ : ∃ ver, ver = m.ver := ⟨_, rfl⟩
  have hn2 : n ≤ 2100 := by rw [hn]; exact hs.1
  rw [← hn, ← hnx, ← hver]
  obtain ⟨hd, hhd⟩ : ∃ hd, hd = encs [ver, nx, (n : Int)] := ⟨_, rfl⟩
  have hhl : hd.length ≤ 30 := by rw [hhd]; exact encs_length _
  have HE : Hid (encM m = hd ++ m.zs.flatMap encZ) := by unfold encM; rw [hhd, hn, hnx, hver]; exact Lib.hid rfl
  have Hn := Lib.hid hn
  have Hhd := Lib.hid hhd
  clear h hs hn hnx hver hhd
  go_enter Try.func27, Try.ntmps27
  go_wp2_with fail
  have s0 := (St.start w).objN (.cells #[.int .i64 ver, .int .i64 nx, .slice ao n zc] 30) w.heap.size rfl
  refine (refNums_eqO [ver, nx, (n : Int)] (w.alloc (.cells #[.int .i64 ver, .int .i64 nx, .slice ao n zc] 30)) (w.heap.size + 1) 3 _ (by simp) rfl rfl (by simp) hd Hhd.out.symm).mono ?_
  rintro e w1 ⟨bo, bc, rfl, ho, hb⟩
  have S1 : Hid (∃ ao' cap cur, ao' = bo ∧ cap = bc ∧ cur.length = hd.length ∧ cur = hd ++ (m.zs.take 0).flatMap encZ ∧ St w w1 [thOwn w.heap.size ao' cap cur, thObj w.heap.size (.cells #[.int .i64 ver, .int .i64 nx, .slice ao n zc] 30)]) := by
    refine Lib.hid ⟨bo, bc, hd, rfl, rfl, rfl, by simp, ?_⟩
    exact s0.new hb (thOwn w.heap.size bo bc hd) (own_weak ho (by simp)) (fun x hx => by
      obtain ⟨a, rfl, rfl⟩ := hx
      exact (own_lt ho a.block rfl).2)
  clear s0 ho hb
  go_wp2_with fail
  go_loopw [3, 4] (fun s3 s4 wr => ∃ (k : Nat) (bo : Option Addr) (bc : Nat) (cur : List UInt8), s4 = .int .i64 k ∧ s3 = .slice bo cur.length bc ∧ k ≤ n ∧ Hid (cur = hd ++ (m.zs.take k).flatMap encZ) ∧ Hid (St w wr [thOwn w.heap.size bo bc cur, thObj w.heap.size (.cells #[.int .i64 ver, .int .i64 nx, .slice ao n zc] 30)])) (fun _ s4 _ => n - (intOf s4).toNat)
  case atStart =>
    obtain ⟨a1, a2, cur, rfl, rfl, e1, e2, hS⟩ := S1.out
    exact ⟨0, _, _, cur, rfl, by rw [e1], by omega, Lib.hid e2, Lib.hid hS⟩
  case round =>
    obtain ⟨k, bo, bc, cur, rfl, rfl, hk, Hcur, S2⟩ := hrel
    clear S1
    obtain ⟨b1, b2, -⟩ := S2.out.cells (t := 30) (b := w.heap.size) (cur := #[.int .i64 ver, .int .i64 nx, .slice ao n zc]) (by simp)
    by_cases hlt : k < n
    · have hl1 : k < m.zs.length := by have := Hn.out; omega
      obtain ⟨g, o, rfl, hz⟩ := Hz.out (by omega)
      have hgr : g < wr.heap.size := Nat.lt_of_lt_of_le hz.lt S2.out.b.size
      obtain ⟨f0, f1, f2, f3, f4, f5, f6, f7, f8⟩ := (hz.grow S2.out.b).nine k hl1 _ rfl
      have hsz := Hs.out.2 m.zs[k] (List.getElem_mem hl1)
      obtain ⟨zid, fr, to, owner, epoch, pend, tt, key, nw, hzk⟩ : ∃ zid fr to owner epoch pend tt key nw, m.zs[k] = (⟨zid, fr, to, owner, epoch, pend, tt, key, nw⟩ : Zn) := ⟨_, _, _, _, _, _, _, _, _, rfl⟩
      have htk := take_encZ hl1
      rw [hzk] at hsz htk f0 f1 f2 f3 f4 f5 f6 f7 f8
      dsimp only at hsz f0 f1 f2 f3 f4 f5 f6 f7 f8
      have hcl := encs_take Hs.out k
      have hcl2 : cur.length ≤ 130000000 := by rw [Hcur.out, List.length_append]; omega
      obtain ⟨q1, hq1⟩ : ∃ q, q = encN (clampN zid) := ⟨_, rfl⟩
      obtain ⟨q2, hq2⟩ : ∃ q, q = encS fr := ⟨_, rfl⟩
      obtain ⟨q3, hq3⟩ : ∃ q, q = encS to := ⟨_, rfl⟩
      obtain ⟨q4, hq4⟩ : ∃ q, q = encs [owner, epoch, pend, tt] := ⟨_, rfl⟩
      obtain ⟨q5, hq5⟩ : ∃ q, q = encS key := ⟨_, rfl⟩
      obtain ⟨q6, hq6⟩ : ∃ q, q = encN (clampN nw) := ⟨_, rfl⟩
      have Htk : Hid (hd ++ (m.zs.take (k + 1)).flatMap encZ = cur ++ q1 ++ q2 ++ q3 ++ q4 ++ q5 ++ q6) := by
        rw [htk, Hcur.out, hq1, hq2, hq3, hq4, hq5, hq6]
        unfold encZ
        refine Lib.hid ?_
        simp only [encs_cons, encs_nil, List.append_nil, List.append_assoc]
      obtain ⟨h1, h2, h3⟩ := hsz
      have l1 : q1.length ≤ 10 := by rw [hq1]; exact (encN_length _).1
      have l2 : q2.length ≤ 20010 := by rw [hq2]; have := encS_length fr; omega
      have l3 : q3.length ≤ 20010 := by rw [hq3]; have := encS_length to; omega
      have l4 : q4.length ≤ 40 := by rw [hq4]; exact encs_length _
      have l5 : q5.length ≤ 20010 := by rw [hq5]; have := encS_length key; omega
      have l6 : q6.length ≤ 10 := by rw [hq6]; exact (encN_length _).1
      have hnum1 := fun w => refNum_any zid w
      have hnum6 := fun w => refNum_any nw w
      rw [← hq1] at hnum1
      rw [← hq6] at hnum6
      have hst2 := fun w3 gg cp (ha : BAt w3 (some ⟨gg, 0, none⟩) fr.data.toList) => refBytes_str fr gg cp w3 ha (by rw [Array.length_toList]; exact Nat.le_trans h1 (by decide))
      have hst3 := fun w3 gg cp (ha : BAt w3 (some ⟨gg, 0, none⟩) to.data.toList) => refBytes_str to gg cp w3 ha (by rw [Array.length_toList]; exact Nat.le_trans h2 (by decide))
      have hst5 := fun w3 gg cp (ha : BAt w3 (some ⟨gg, 0, none⟩) key.data.toList) => refBytes_str key gg cp w3 ha (by rw [Array.length_toList]; exact Nat.le_trans h3 (by decide))
      rw [← hq2] at hst2
      rw [← hq3] at hst3
      rw [← hq5] at hst5
      have H1 := Lib.hid hnum1
      have H2 := Lib.hid hst2
      have H3 := Lib.hid hst3
      have H4 := Lib.hid hq4
      have H5 := Lib.hid hst5
      have H6 := Lib.hid hnum6
      clear hz hzk htk hcl hq1 hq2 hq3 hq4 hq5 hq6 hnum1 hnum6 hst2 hst3 hst5 h1 h2 h3
      go_wp2_with fail
      obtain ⟨bx, hbx⟩ : ∃ bx, bx = wr.heap.size := ⟨_, rfl⟩
      have s3 := Lib.hid ((S2.out.objN (.cells #[.int .i64 zid, .string fr, .string to, .int .i64 owner, .int .i64 epoch, .int .i64 pend, .int .i64 tt, .string key, .int .i64 nw] 39) bx hbx).pull (A := [_]))
      rw [← hbx]
      clear f0 f1 f2 f3 f4 f5 f6 f7 f8 hgr b1 b2 S2
      refine (H1.out _).mono ?_
      rintro e w1 ⟨bo, bc, rfl, ho, hb⟩
      have s4 := Lib.hid (s3.out.grow hb)
      clear s3 hb hbx H1
      go_wp2_with (at_builtin; go_must (refine wpList_append_foot _ rfl (.tmp 27) (.tmp 30) 58 rfl w.heap.size 5 i0 (.int .u8 0) 1 1 Try.underlying58 hii hz0 hz1 hz2 rfl (by decide) _ cur.length _ (bytV cur) rfl s4.out.head bo q1.length bc (bytV q1) rfl ho.none (by rw [bytV_length, Nat.mul_one]) ho.at.cells (bytV_one _) (by unfold maxLen; omega) (by omega) (by have := s4.out.b.size; omega) ?_)); intro co c1 w2 hown hgrow hco
      obtain ⟨cur1, hc1⟩ : ∃ c, c = cur ++ q1 := ⟨_, rfl⟩
      have hcl3 : cur1.length ≤ 130000010 := by rw [hc1, List.length_append]; omega
      rw [← hc1] at Htk
      rw [← List.length_append, ← hc1]
      (have SA : Hid (St w w2 (thOwn w.heap.size co c1 cur1 :: [thObj bx (.cells #[.int .i64 zid, .string fr, .string to, .int .i64 owner, .int .i64 epoch, .int .i64 pend, .int .i64 tt, .string key, .int .i64 nw] 39), thObj w.heap.size (.cells #[.int .i64 ver, .int .i64 nx, .slice (some ⟨g, o, none⟩) n zc] 30)])) := (by rw [hc1]; exact Lib.hid (s4.out.appended hown hgrow hco))); (obtain ⟨d1, d2, -⟩ := SA.out.cells (t := 39) (b := bx) (cur := #[.int .i64 zid, .string fr, .string to, .int .i64 owner, .int .i64 epoch, .int .i64 pend, .int .i64 tt, .string key, .int .i64 nw]) (by simp))
      clear hown hgrow hco ho s4 hc1 hcl2 l1
      go_wp2_with fail
      refine (H2.out _ _ _ (bytesWorld_bat w2 fr)).mono ?_
      rintro e w1 ⟨bo, bc, rfl, ho, hb⟩
      have s4 := Lib.hid (SA.out.grow ((bytesWorld_below w2 fr).trans (hb.mono (by rw [bytesWorld_sz]; omega))))
      clear SA hb d1 d2 H2
      go_wp2_with (at_builtin; go_must (refine wpList_append_foot _ rfl (.tmp 32) (.tmp 37) 58 rfl w.heap.size 5 i0 (.int .u8 0) 1 1 Try.underlying58 hii hz0 hz1 hz2 rfl (by decide) _ cur1.length _ (bytV cur1) rfl s4.out.head bo q2.length bc (bytV q2) rfl ho.none (by rw [bytV_length, Nat.mul_one]) ho.at.cells (bytV_one _) (by unfold maxLen; omega) (by omega) (by have := s4.out.b.size; omega) ?_)); intro co c1 w2 hown hgrow hco
      obtain ⟨cur2, hc1⟩ : ∃ c, c = cur1 ++ q2 := ⟨_, rfl⟩
      have hcl3 : cur2.length ≤ 130030000 := by rw [hc1, List.length_append]; omega
      rw [← hc1] at Htk
      rw [← List.length_append, ← hc1]
      (have SB : Hid (St w w2 (thOwn w.heap.size co c1 cur2 :: [thObj bx (.cells #[.int .i64 zid, .string fr, .string to, .int .i64 owner, .int .i64 epoch, .int .i64 pend, .int .i64 tt, .string key, .int .i64 nw] 39), thObj w.heap.size (.cells #[.int .i64 ver, .int .i64 nx, .slice (some ⟨g, o, none⟩) n zc] 30)])) := (by rw [hc1]; exact Lib.hid (s4.out.appended hown hgrow hco))); (obtain ⟨d1, d2, -⟩ := SB.out.cells (t := 39) (b := bx) (cur := #[.int .i64 zid, .string fr, .string to, .int .i64 owner, .int .i64 epoch, .int .i64 pend, .int .i64 tt, .string key, .int .i64 nw]) (by simp))
      clear hown hgrow hco ho s4 hc1 l2
      go_wp2_with fail
      refine (H3.out _ _ _ (bytesWorld_bat w2 to)).mono ?_
      rintro e w1 ⟨bo, bc, rfl, ho, hb⟩
      have s4 := Lib.hid (SB.out.grow ((bytesWorld_below w2 to).trans (hb.mono (by rw [bytesWorld_sz]; omega))))
      clear SB hb d1 d2 H3
      go_wp2_with (at_builtin; go_must (refine wpList_append_foot _ rfl (.tmp 39) (.tmp 44) 58 rfl w.heap.size 5 i0 (.int .u8 0) 1 1 Try.underlying58 hii hz0 hz1 hz2 rfl (by decide) _ cur2.length _ (bytV cur2) rfl s4.out.head bo q3.length bc (bytV q3) rfl ho.none (by rw [bytV_length, Nat.mul_one]) ho.at.cells (bytV_one _) (by unfold maxLen; omega) (by omega) (by have := s4.out.b.size; omega) ?_)); intro co c1 w2 hown hgrow hco
      obtain ⟨cur3, hc1⟩ : ∃ c, c = cur2 ++ q3 := ⟨_, rfl⟩
      have hcl3 : cur3.length ≤ 130060000 := by rw [hc1, List.length_append]; omega
      rw [← hc1] at Htk
      rw [← List.length_append, ← hc1]
      (have SC : Hid (St w w2 (thOwn w.heap.size co c1 cur3 :: [thObj bx (.cells #[.int .i64 zid, .string fr, .string to, .int .i64 owner, .int .i64 epoch, .int .i64 pend, .int .i64 tt, .string key, .int .i64 nw] 39), thObj w.heap.size (.cells #[.int .i64 ver, .int .i64 nx, .slice (some ⟨g, o, none⟩) n zc] 30)])) := (by rw [hc1]; exact Lib.hid (s4.out.appended hown hgrow hco))); (obtain ⟨d1, d2, -⟩ := SC.out.cells (t := 39) (b := bx) (cur := #[.int .i64 zid, .string fr, .string to, .int .i64 owner, .int .i64 epoch, .int .i64 pend, .int .i64 tt, .string key, .int .i64 nw]) (by simp))
      clear hown hgrow hco ho s4 hc1 l3
      go_wp2_with fail
      refine (refNums_eqO [owner, epoch, pend, tt] w2 w2.heap.size 4 _ rfl rfl rfl (by simp) q4 H4.out.symm).mono ?_
      rintro e w1 ⟨bo, bc, rfl, ho, hb⟩
      have s4 := Lib.hid (SC.out.grow hb)
      clear SC hb d1 d2 H4
      go_wp2_with (at_builtin; go_must (refine wpList_append_foot _ rfl (.tmp 46) (.tmp 56) 58 rfl w.heap.size 5 i0 (.int .u8 0) 1 1 Try.underlying58 hii hz0 hz1 hz2 rfl (by decide) _ cur3.length _ (bytV cur3) rfl s4.out.head bo q4.length bc (bytV q4) rfl ho.none (by rw [bytV_length, Nat.mul_one]) ho.at.cells (bytV_one _) (by unfold maxLen; omega) (by omega) (by have := s4.out.b.size; omega) ?_)); intro co c1 w2 hown hgrow hco
      obtain ⟨cur4, hc1⟩ : ∃ c, c = cur3 ++ q4 := ⟨_, rfl⟩
      have hcl3 : cur4.length ≤ 130070000 := by rw [hc1, List.length_append]; omega
      rw [← hc1] at Htk
      rw [← List.length_append, ← hc1]
      (have SD : Hid (St w w2 (thOwn w.heap.size co c1 cur4 :: [thObj bx (.cells #[.int .i64 zid, .string fr, .string to, .int .i64 owner, .int .i64 epoch, .int .i64 pend, .int .i64 tt, .string key, .int .i64 nw] 39), thObj w.heap.size (.cells #[.int .i64 ver, .int .i64 nx, .slice (some ⟨g, o, none⟩) n zc] 30)])) := (by rw [hc1]; exact Lib.hid (s4.out.appended hown hgrow hco))); (obtain ⟨d1, d2, -⟩ := SD.out.cells (t := 39) (b := bx) (cur := #[.int .i64 zid, .string fr, .string to, .int .i64 owner, .int .i64 epoch, .int .i64 pend, .int .i64 tt, .string key, .int .i64 nw]) (by simp))
      clear hown hgrow hco ho s4 hc1 l4
      go_wp2_with fail
      refine (H5.out _ _ _ (bytesWorld_bat w2 key)).mono ?_
      rintro e w1 ⟨bo, bc, rfl, ho, hb⟩
      have s4 := Lib.hid (SD.out.grow ((bytesWorld_below w2 key).trans (hb.mono (by rw [bytesWorld_sz]; omega))))
      clear SD hb d1 d2 H5
      go_wp2_with (at_builtin; go_must (refine wpList_append_foot _ rfl (.tmp 58) (.tmp 62) 58 rfl w.heap.size 5 i0 (.int .u8 0) 1 1 Try.underlying58 hii hz0 hz1 hz2 rfl (by decide) _ cur4.length _ (bytV cur4) rfl s4.out.head bo q5.length bc (bytV q5) rfl ho.none (by rw [bytV_length, Nat.mul_one]) ho.at.cells (bytV_one _) (by unfold maxLen; omega) (by omega) (by have := s4.out.b.size; omega) ?_)); intro co c1 w2 hown hgrow hco
      obtain ⟨cur5, hc1⟩ : ∃ c, c = cur4 ++ q5 := ⟨_, rfl⟩
      have hcl3 : cur5.length ≤ 130100000 := by rw [hc1, List.length_append]; omega
      rw [← hc1] at Htk
      rw [← List.length_append, ← hc1]
      (have SE : Hid (St w w2 (thOwn w.heap.size co c1 cur5 :: [thObj bx (.cells #[.int .i64 zid, .string fr, .string to, .int .i64 owner, .int .i64 epoch, .int .i64 pend, .int .i64 tt, .string key, .int .i64 nw] 39), thObj w.heap.size (.cells #[.int .i64 ver, .int .i64 nx, .slice (some ⟨g, o, none⟩) n zc] 30)])) := (by rw [hc1]; exact Lib.hid (s4.out.appended hown hgrow hco))); (obtain ⟨d1, d2, -⟩ := SE.out.cells (t := 39) (b := bx) (cur := #[.int .i64 zid, .string fr, .string to, .int .i64 owner, .int .i64 epoch, .int .i64 pend, .int .i64 tt, .string key, .int .i64 nw]) (by simp))
      clear hown hgrow hco ho s4 hc1 l5
      go_wp2_with fail
      refine (H6.out _).mono ?_
      rintro e w1 ⟨bo, bc, rfl, ho, hb⟩
      have s4 := Lib.hid (SE.out.grow hb)
      clear SE hb d1 d2 H6
      go_wp2_with (at_builtin; go_must (refine wpList_append_foot _ rfl (.tmp 64) (.tmp 67) 58 rfl w.heap.size 5 i0 (.int .u8 0) 1 1 Try.underlying58 hii hz0 hz1 hz2 rfl (by decide) _ cur5.length _ (bytV cur5) rfl s4.out.head bo q6.length bc (bytV q6) rfl ho.none (by rw [bytV_length, Nat.mul_one]) ho.at.cells (bytV_one _) (by unfold maxLen; omega) (by omega) (by have := s4.out.b.size; omega) ?_)); intro co c1 w2 hown hgrow hco
      obtain ⟨cur6, hc1⟩ : ∃ c, c = cur5 ++ q6 := ⟨_, rfl⟩
      have hcl3 : cur6.length ≤ 130110000 := by rw [hc1, List.length_append]; omega
      rw [← hc1] at Htk
      rw [← List.length_append, ← hc1]
      (have SF : Hid (St w w2 (thOwn w.heap.size co c1 cur6 :: [thObj bx (.cells #[.int .i64 zid, .string fr, .string to, .int .i64 owner, .int .i64 epoch, .int .i64 pend, .int .i64 tt, .string key, .int .i64 nw] 39), thObj w.heap.size (.cells #[.int .i64 ver, .int .i64 nx, .slice (some ⟨g, o, none⟩) n zc] 30)])) := (by rw [hc1]; exact Lib.hid (s4.out.appended hown hgrow hco))); (obtain ⟨d1, d2, -⟩ := SF.out.cells (t := 39) (b := bx) (cur := #[.int .i64 zid, .string fr, .string to, .int .i64 owner, .int .i64 epoch, .int .i64 pend, .int .i64 tt, .string key, .int .i64 nw]) (by simp))
      clear hown hgrow hco ho s4 hc1 l6
      have S7 : Hid (St w w2 [thOwn w.heap.size co c1 cur6, thObj w.heap.size (.cells #[.int .i64 ver, .int .i64 nx, .slice (some ⟨g, o, none⟩) n zc] 30)]) := Lib.hid (SF.out.pull (A := [_])).drop
      clear SF d1 d2
      go_wp2_with fail
      go_roundw
      case rel => exact ⟨k + 1, co, c1, cur6, by go_num, rfl, by omega, Lib.hid Htk.out.symm, S7⟩
      case measure => simp [intOf]; omega
    · obtain rfl : n = k := by omega
      have hX : cur = encM m := by
        rw [HE.out, Hcur.out, show m.zs.take n = m.zs from by rw [Hn.out, List.take_length]]
      have HX := Lib.hid hX
      clear hX
      go_wp2_with fail
      go_ret
      rw [← HX.out]
      exact ⟨bo, bc, rfl, S2.out.head, S2.out.b⟩
end Go.Proofs.Ytobnibdeimiinaa.O
