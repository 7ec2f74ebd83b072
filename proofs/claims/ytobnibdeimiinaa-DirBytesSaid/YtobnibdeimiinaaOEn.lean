/- The contracts of the program's and the document's Encode of a map. -/
import Derived.Test.YtobnibdeimiinaaByP
import Derived.Test.YtobnibdeimiinaaOFi
import Derived.Test.YtobnibdeimiinaaBs
namespace Go.Proofs.Ytobnibdeimiinaa.O
open Go.RowKit
set_option maxRecDepth 20000

/-- Zones behind a slice, if there are any. -/
def ZsAt (w : World) (ao : Option Addr) (l : List Zn) : Prop := 0 < l.length → ∃ g o, ao = some ⟨g, o, none⟩ ∧ ZnO w g o l
theorem ZsAt.grow {w w' : World} {ao : Option Addr} {l : List Zn} (h : ZsAt w ao l) (b : Below w.heap.size w w') : ZsAt w' ao l := fun hp => by
  obtain ⟨g, o, e, hz⟩ := h hp
  exact ⟨g, o, e, hz.grow b⟩
/-- Sizes that are written. -/
def SzB (m : Mp) : Prop := m.zs.length ≤ 2100 ∧ ∀ z ∈ m.zs, z.fr.size ≤ 20000 ∧ z.to.size ≤ 20000 ∧ z.key.size ≤ 20000
theorem encZ_length (z : Zn) (h : z.fr.size ≤ 20000 ∧ z.to.size ≤ 20000 ∧ z.key.size ≤ 20000) : (encZ z).length ≤ 61000 := by
  have h1 := encs_length [z.id]
  have h2 := encs_length [z.owner, z.epoch, z.pend, z.tt]
  have h3 := encs_length [z.nw]
  have h4 := encS_length z.fr
  have h5 := encS_length z.to
  have h6 := encS_length z.key
  unfold encZ
  simp only [List.length_append, List.length_cons, List.length_nil] at h1 h2 h3 ⊢
  omega
theorem encs_take {m : Mp} (h : SzB m) (k : Nat) : ((m.zs.take k).flatMap encZ).length ≤ 61000 * k := by
  obtain ⟨-, hz⟩ := h
  generalize m.zs = l at hz
  induction l generalizing k with
  | nil => simp
  | cons z r ih =>
    cases k with
    | zero => simp
    | succ k =>
      have h1 := encZ_length z (hz z (by simp))
      have h2 := ih k (fun y hy => hz y (by simp [hy]))
      simp only [List.take_succ_cons, List.flatMap_cons, List.length_append]
      omega
theorem take_encZ {l : List Zn} {k : Nat} (h : k < l.length) : (l.take (k + 1)).flatMap encZ = (l.take k).flatMap encZ ++ encZ l[k] := by
  rw [List.take_succ_eq_append_getElem h, List.flatMap_append]; simp only [List.flatMap_cons, List.flatMap_nil, List.append_nil]
set_option maxHeartbeats 4000000 in
theorem pencM_any (ao : Option Addr) (zc : Nat) (m : Mp) (w : World) (h : ZsAt w ao m.zs) (hs : SzB m) :
    Calls Try.prog 26 #[.agg #[.int .i64 m.ver, .int .i64 m.next, .slice ao m.zs.length zc]] w (FreshB w (encM m)) := by
  have Hz := Lib.hid h
  have Hs := Lib.hid hs
  have hcv := conv_bytes
  obtain ⟨n, hn⟩ : ∃ n, n = m.zs.length := ⟨_, rfl⟩
  obtain ⟨nx, hnx⟩ : ∃ nx, nx = m.next := ⟨_, rfl⟩
  obtain ⟨ver, hver⟩ : ∃ ver, ver = m.ver := ⟨_, rfl⟩
  have hn2 : n ≤ 2100 := by rw [hn]; exact hs.1
  rw [← hn, ← hnx, ← hver]
  obtain ⟨hd, hhd⟩ : ∃ hd, hd = encs [ver, nx, (n : Int)] := ⟨_, rfl⟩
  have hhl : hd.length ≤ 30 := by rw [hhd]; exact encs_length _
  have HE : Hid (encM m = hd ++ m.zs.flatMap encZ) := by unfold encM; rw [hhd, hn, hnx, hver]; exact Lib.hid rfl
  have Hn := Lib.hid hn
  have Hhd := Lib.hid hhd
  clear h hs hn hnx hver hhd
  go_enter Try.func26, Try.ntmps26
  go_wp2_with fail
  have s0 := ((St.start w).objN (.cells #[.int .i64 ver, .int .i64 nx, .slice ao n zc] 30) w.heap.size rfl).newWr (w.heap.size + 1) (by simp) w.heap.size
  refine (s0.nums [ver, nx, (n : Int)] (w.heap.size + 1 + 1) 3 (by simp) rfl _ rfl (by simp)).mono ?_
  rintro e w1 ⟨rfl, o1, hS⟩
  have S1 : Hid (∃ o', St w w1 [thWr (w.heap.size + 1) w.heap.size (hd ++ (m.zs.take 0).flatMap encZ) o', thObj w.heap.size (.cells #[.int .i64 ver, .int .i64 nx, .slice ao n zc] 30)]) := by
    rw [Hhd.out]
    refine Lib.hid ⟨o1, ?_⟩
    simpa using hS
  obtain ⟨hb1, hb2, -⟩ := hS.cells (t := 30) (b := w.heap.size) (cur := #[.int .i64 ver, .int .i64 nx, .slice ao n zc]) (by simp)
  clear s0 hS
  go_wp2_with fail
  clear hb1 hb2
  go_loopw [18] (fun s wr => ∃ k : Nat, s = .int .i64 k ∧ k ≤ n ∧ Hid (∃ o', St w wr [thWr (w.heap.size + 1) w.heap.size (hd ++ (m.zs.take k).flatMap encZ) o', thObj w.heap.size (.cells #[.int .i64 ver, .int .i64 nx, .slice ao n zc] 30)])) (fun s _ => n - (intOf s).toNat)
  case atStart => exact ⟨0, rfl, by omega, S1⟩
  case round =>
    obtain ⟨k, rfl, hk, hS⟩ := hrel
    obtain ⟨o1, hS⟩ := hS.out
    have S2 := Lib.hid hS
    clear S1 hS
    by_cases hlt : k < n
    · have hl1 : k < m.zs.length := by have := Hn.out; omega
      obtain ⟨g, o, rfl, hz⟩ := Hz.out (by omega)
      have hgr : g < wr.heap.size := Nat.lt_of_lt_of_le hz.lt S2.out.b.size
      obtain ⟨f0, f1, f2, f3, f4, f5, f6, f7, f8⟩ := (hz.grow S2.out.b).nine k hl1 _ rfl
      have hsz := Hs.out.2 m.zs[k] (List.getElem_mem hl1)
      obtain ⟨zid, fr, to, owner, epoch, pend, tt, key, nw, hzk⟩ : ∃ zid fr to owner epoch pend tt key nw, m.zs[k] = (⟨zid, fr, to, owner, epoch, pend, tt, key, nw⟩ : Zn) := ⟨_, _, _, _, _, _, _, _, _, rfl⟩
      have htk := take_encZ hl1
      rw [hzk] at hsz htk f0 f1 f2 f3 f4 f5 f6 f7 f8
      dsimp only at hsz f0 f1 f2 f3 f4 f5 f6 f7 f8
      have hcl := encs_take Hs.out k
      obtain ⟨cur, hcur⟩ : ∃ cur, cur = hd ++ (m.zs.take k).flatMap encZ := ⟨_, rfl⟩
      have hcl2 : cur.length ≤ 130000000 := by rw [hcur, List.length_append]; omega
      have Htk : Hid (hd ++ (m.zs.take (k + 1)).flatMap encZ = cur ++ encs [zid] ++ (encS fr ++ encS to) ++ encs [owner, epoch, pend, tt] ++ encS key ++ encs [nw]) := by rw [htk, hcur]; unfold encZ; exact Lib.hid (by simp only [List.append_assoc])
      rw [← hcur] at S2
      obtain ⟨h1, h2, h3⟩ := hsz
      have l1 := encs_length [zid]
      have l2 := encs_length [owner, epoch, pend, tt]
      have l3 := encs_length [nw]
      have l4 := encS_length fr
      have l5 := encS_length to
      have l6 := encS_length key
      simp only [List.length_cons, List.length_nil] at l1 l2 l3
      have HL := Lib.hid (⟨l1, l2, l3, l4, l5, l6⟩ : _ ∧ _ ∧ _ ∧ _ ∧ _ ∧ _)
      clear hz hzk htk hcl hcur l1 l2 l3 l4 l5 l6
      go_wp2_with fail
      obtain ⟨bx, hbx⟩ : ∃ bx, bx = wr.heap.size := ⟨_, rfl⟩
      have s3 := (S2.out.objN (.cells #[.int .i64 zid, .string fr, .string to, .int .i64 owner, .int .i64 epoch, .int .i64 pend, .int .i64 tt, .string key, .int .i64 nw] 39) bx hbx).pull (A := [_])
      rw [← hbx]
      refine (s3.nums [zid] (bx + 1) 1 (by simp [hbx]) rfl _ rfl (by simp; omega)).mono ?_
      rintro e w3 ⟨rfl, o3, hS⟩
      have S3 := Lib.hid hS
      obtain ⟨c1, c2, -⟩ := hS.cells (t := 39) (b := bx) (cur := #[.int .i64 zid, .string fr, .string to, .int .i64 owner, .int .i64 epoch, .int .i64 pend, .int .i64 tt, .string key, .int .i64 nw]) (by simp)
      clear hS s3 S2 hgr f0 f1 f2 f3 f4 f5 f6 f7 f8 hbx
      have g1 : bx < w3.heap.size + 1 := by omega
      have g2 : bx < w3.heap.size + 1 + 1 := by omega
      go_wp2_with fail
      refine (St.text2 S3.out fr to (by omega) (by omega) (w3.heap.size + 1 + 1) rfl w3.heap.size (w3.heap.size + 1) rfl rfl (by have := HL.out; simp only [List.length_append]; omega)).mono ?_
      rintro e w4 ⟨rfl, o4, hS⟩
      have S4 := Lib.hid hS
      obtain ⟨c1, c2, -⟩ := hS.cells (t := 39) (b := bx) (cur := #[.int .i64 zid, .string fr, .string to, .int .i64 owner, .int .i64 epoch, .int .i64 pend, .int .i64 tt, .string key, .int .i64 nw]) (by simp)
      clear hS S3 g1 g2
      go_wp2_with fail
      refine (S4.out.nums [owner, epoch, pend, tt] w4.heap.size 4 rfl rfl _ rfl (by have := HL.out; simp only [List.length_append, List.length_cons, List.length_nil]; omega)).mono ?_
      rintro e w5 ⟨rfl, o5, hS⟩
      have S5 := Lib.hid hS
      obtain ⟨c1, c2, -⟩ := hS.cells (t := 39) (b := bx) (cur := #[.int .i64 zid, .string fr, .string to, .int .i64 owner, .int .i64 epoch, .int .i64 pend, .int .i64 tt, .string key, .int .i64 nw]) (by simp)
      clear hS S4
      have g1 : bx < w5.heap.size + 1 := by omega
      go_wp2_with fail
      refine (St.text1 S5.out key (by omega) (w5.heap.size + 1) rfl w5.heap.size rfl (by have := HL.out; simp only [List.length_append]; omega)).mono ?_
      rintro e w6 ⟨rfl, o6, hS⟩
      have S6 := Lib.hid hS
      obtain ⟨c1, c2, -⟩ := hS.cells (t := 39) (b := bx) (cur := #[.int .i64 zid, .string fr, .string to, .int .i64 owner, .int .i64 epoch, .int .i64 pend, .int .i64 tt, .string key, .int .i64 nw]) (by simp)
      clear hS S5 g1
      go_wp2_with fail
      refine (S6.out.nums [nw] w6.heap.size 1 rfl rfl _ rfl (by have := HL.out; simp only [List.length_append, List.length_cons, List.length_nil]; omega)).mono ?_
      rintro e w7 ⟨rfl, o7, hS⟩
      have S7 : Hid (∃ o', St w w7 [thWr (w.heap.size + 1) w.heap.size (hd ++ (m.zs.take (k + 1)).flatMap encZ) o', thObj w.heap.size (.cells #[.int .i64 ver, .int .i64 nx, .slice (some ⟨g, o, none⟩) n zc] 30)]) := by
        rw [Htk.out]
        exact Lib.hid ⟨o7, (hS.pull (A := [_])).drop⟩
      clear hS S6 c1 c2
      go_wp2_with fail
      go_roundw
      case rel => exact ⟨k + 1, by go_num, by omega, S7⟩
      case measure => simp [intOf]; omega
    · obtain rfl : n = k := by omega
      have S3 : Hid (St w wr [thWr (w.heap.size + 1) w.heap.size (encM m) o1, thObj w.heap.size (.cells #[.int .i64 ver, .int .i64 nx, .slice ao n zc] 30)]) := by
        have := S2.out
        rw [HE.out]
        rwa [show m.zs.take n = m.zs from by rw [Hn.out, List.take_length]] at this
      have hlen : (encM m).length ≤ 140737488351232 := by
        have := encs_take Hs.out n
        rw [HE.out, List.length_append]
        rw [show m.zs.take n = m.zs from by rw [Hn.out, List.take_length]] at this
        omega
      clear S2
      obtain ⟨X, hX⟩ : ∃ X, X = encM m := ⟨_, rfl⟩
      rw [← hX] at S3 hlen
      have HX := Lib.hid hX
      clear hX
      go_wp2_with fail
      refine (out_any (w.heap.size + 1) w.heap.size X o1 wr S3.out.head hlen).mono ?_
      rintro e w5 ⟨bo, cap, rfl, ho, hb⟩
      have Ho := Lib.hid (own_weak ho S3.out.b.size)
      have Hb := Lib.hid (S3.out.grow hb).b
      clear ho hb
      go_wp2_with fail
      go_ret
      rw [← HX.out]
      exact ⟨bo, cap, rfl, Ho.out, Hb.out⟩
end Go.Proofs.Ytobnibdeimiinaa.O
