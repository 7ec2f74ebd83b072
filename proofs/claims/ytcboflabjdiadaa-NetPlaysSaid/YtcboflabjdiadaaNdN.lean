/- does: Send. -/
import Derived.Test.YtcboflabjdiadaaTk
import Derived.Deep.AppendLies
import Derived.Deep.RegionLaw
namespace Go.Proofs.Ytcboflabjdiadaa
open Go.RowKit

theorem msgInfo3 : (Try.prog.info? 35).map (fun i => (i.zero, i.size, i.bytes)) = some (some (.agg #[.int .i64 0, .int .i64 0, .slice none 0 0]), 3, 40) := by kernel_rfl
theorem msG3_length (l : List Ms) : (msG3 l).length = l.length * 3 := by
  induction l with
  | nil => rfl
  | cons m r ih => simp only [msG3, List.flatMap_cons, List.length_append, List.length_cons] at ih ⊢; rw [ih]; simp; omega
theorem msG3_append (a b : List Ms) : msG3 (a ++ b) = msG3 a ++ msG3 b := by simp [msG3]
theorem msG3_one (l : List Ms) : ∀ u ∈ msG3 l, u.oneCell' = true := by
  intro u hu
  simp only [msG3, List.mem_flatMap] at hu
  obtain ⟨m, -, hm⟩ := hu
  simp only [List.mem_cons, List.not_mem_nil, or_false] at hm
  rcases hm with rfl | rfl | rfl <;> rfl
/-- Messages in a row of the call's own, their bytes in blocks of its own. -/
theorem msAt_row {w : World} {base rc n : Nat} {ro : Option Addr} {L : List Ms} (hn : n = L.length) (h : w.ownsRow base 35 3 (.slice ro n rc) n (msG3 L)) (hD : ∀ m ∈ L, OwnB w base m.ao m.cap m.bs) (hb : ∀ m ∈ L, m.bs.length ≤ 140737488351232 ∧ m.sp = false) : MsAt w ro L := by
  subst hn
  intro hp
  obtain ⟨g, rfl, hl⟩ := row_form h hp
  refine ⟨g, 0, rfl, hl, fun i hi => ?_⟩
  have hcell : ∀ j, j < 3 → w.cell? ⟨g, 0 + i * 3 + j, none⟩ = [Value.int .i64 L[i].f, .int .i64 L[i].t, .slice L[i].ao L[i].bs.length L[i].cap][j]? := fun j hj => by
    rw [Nat.zero_add, World.ownsRow.cellAt h _ (by omega), msG3_get L i hi j hj]
  have ho := hD _ (List.getElem_mem hi)
  obtain ⟨h1, h2⟩ := hb _ (List.getElem_mem hi)
  exact ⟨hcell 0 (by omega), hcell 1 (by omega), hcell 2 (by omega), ho.none, ho.at, h1, h2⟩
/-- What the acts' loop holds: the row of copies and their bytes. -/
def sdL (W : World) (ro : Option Addr) (n rc : Nat) (L : List Ms) (D : List Ms) (X : List Th) : List Th := thRow W.heap.size 35 3 ro n rc (msG3 L) :: (D.map (thD W.heap.size) ++ X)
structure SdR (W : World) (p x : Nat) (C : List Ct) (M L : List Ms) (i : Nat) (ro : Option Addr) (rc : Nat) (X : List Th) (wr : World) : Prop where
  ll : L.length = i
  im : i ≤ M.length
  cts : L.map ct = (M.take i).map ct
  bd : ∀ m ∈ L, m.bs.length ≤ 140737488351232 ∧ m.sp = false
  bo : Both W wr p x C C (sdL W ro i rc L L X)
/-- A message's cells. -/
structure MgC (w : World) (b o : Nat) (f t : Int) (ao : Option Addr) (al ac : Nat) : Prop where
  m0 : w.cell? ⟨b, o, none⟩ = some (.int .i64 f)
  m1 : w.cell? ⟨b, o + 1, none⟩ = some (.int .i64 t)
  m2 : w.cell? ⟨b, o + 2, none⟩ = some (.slice ao al ac)
  mb : b < w.heap.size
theorem MgC.old {W w : World} {b o : Nat} {f t : Int} {ao : Option Addr} {al ac : Nat} (h : MgC W b o f t ao al ac) (hb : Below W.heap.size W w) : MgC w b o f t ao al ac :=
  ⟨(hb.cell (p := ⟨b, _, none⟩) h.mb).trans h.m0, (hb.cell (p := ⟨b, _, none⟩) h.mb).trans h.m1, (hb.cell (p := ⟨b, _, none⟩) h.mb).trans h.m2, Nat.lt_of_lt_of_le h.mb hb.size⟩
theorem sd_app {W w1 w3 : World} {p x : Nat} {C : List Ct} {L : List Ms} {i : Nat} {ro : Option Addr} {rc g c g2 c2 : Nat} {X : List Th} {f t : Int} {bs : List UInt8} {o : Obj}
    (hB : Both W w1 p x C C (thOwn W.heap.size (some ⟨g, 0, none⟩) c bs :: sdL W ro i rc L L X)) (hown : w3.ownsRow W.heap.size 35 3 (.slice (some ⟨g2, 0, none⟩) (i + 1) c2) (i + 1) (msG3 L ++ msG3 [⟨f, t, some ⟨g, 0, none⟩, c, bs, false⟩])) (hgrow : (w1.alloc o).grownBy w3 (Value.slice ro i rc).ownBlock) (hg2 : (Value.slice ro i rc).ownBlock = some g2 ∨ g2 = w1.heap.size + 1) :
    Both W w3 p x C C (sdL W (some ⟨g2, 0, none⟩) (i + 1) c2 (L ++ [⟨f, t, some ⟨g, 0, none⟩, c, bs, false⟩]) (L ++ [⟨f, t, some ⟨g, 0, none⟩, c, bs, false⟩]) X) := by
  have h1 := hB.obj o
  have h2 := h1.perm (R' := thRow W.heap.size 35 3 ro i rc (msG3 L) :: thObj w1.heap.size o :: thOwn W.heap.size (some ⟨g, 0, none⟩) c bs :: (L.map (thD W.heap.size) ++ X)) (List.perm_middle (l₁ := [_, _]))
  have hrow : (w1.alloc o).ownsRow W.heap.size 35 3 (.slice ro i rc) i (msG3 L) := h2.mem List.mem_cons_self
  have h3 := h2.step (thRow W.heap.size 35 3 (some ⟨g2, 0, none⟩) (i + 1) c2 (msG3 L ++ msG3 [⟨f, t, some ⟨g, 0, none⟩, c, bs, false⟩])) (fun L' hS => hS.appendedRow hown hgrow (fun a ha => by
    cases ha
    rcases hg2 with h | h
    · left
      rcases hrow.2 with ⟨hv, h0⟩ | ⟨g', c', cur, hv, -⟩
      · rw [hv] at h; simp [Value.ownBlock] at h
      · simp only [Value.slice.injEq] at hv
        obtain ⟨rfl, -, -⟩ := hv
        simp [Value.ownBlock] at h
        rw [h]
    · right; simp; omega))
  have h4 := (h3.perm (List.Perm.swap _ _ _)).drop
  refine h4.perm ?_
  unfold sdL
  rw [msG3_append, List.map_append]
  refine List.Perm.cons _ ?_
  rw [List.append_assoc]
  exact List.perm_middle.symm
theorem sd_ms {W : World} {ro : Option Addr} {i rc : Nat} {L : List Ms} {X : List Th} (hl : L.length = i) (hb : ∀ m ∈ L, m.bs.length ≤ 140737488351232 ∧ m.sp = false) : ∀ w' X', St W w' (X' ++ sdL W ro i rc L L X) → MsAt w' ro L := fun w' X' hS =>
  msAt_row hl.symm (hS.mem (t := thRow W.heap.size 35 3 ro i rc (msG3 L)) (by simp [sdL])) (fun m hm => hS.mem (t := thD W.heap.size m) (List.mem_append.2 (.inr (List.mem_cons_of_mem _ (List.mem_append.2 (.inl (List.mem_map_of_mem hm))))))) hb
theorem sd_act {W w : World} {p x : Nat} {C D : List Ct} {ro : Option Addr} {i rc : Nat} {L Y : List Ms} {R : List Th} {B : Nat} {k n m y : Value} {mo : Option Addr} {ml mc : Nat} (h : Both W w p x C D (sdL W ro i rc L Y (thObj B (actO k n m y mo ml mc) :: R))) : ActC B k n m y mo ml mc w :=
  actC_of (h.mem (List.mem_cons_of_mem _ (List.mem_append.2 (.inr List.mem_cons_self))))
set_option maxRecDepth 20000 in
set_option maxHeartbeats 4000000 in
theorem does_Send (W w : World) (p x : Nat) (C : List Ct) (R : List Th) (n m : Int) (y : UInt8) (mo : Option Addr) (mc : Nat) (M : List Ms) (h : Both W w p x C C R) (hM : MsAt W mo M) (hMl : M.length * 40 ≤ 140737488351232) :
    Calls Try.prog 21 #[.pointer (some ⟨p, 0, none⟩), .pointer (some ⟨x, 0, none⟩), .agg #[.int .i64 1, .int .i64 n, .int .i64 m, .int .u8 (y.toNat : Int), .slice mo M.length mc]] w fun e w' => e = .returned (.bool true) ∧ Both W w' p x (C ++ (M.take (fits C.length M.length)).map ct) (C ++ (M.take (fits C.length M.length)).map ct) R := by
  have H := Lib.hid h
  have HM := Lib.hid hM
  obtain ⟨i0, hii, hz0, hz1, hz2⟩ := info_parts msgInfo3
  clear h hM
  go_enter Try.func21, Try.ntmps21
  go_wp2_with fail
  refine wp_name fun wa hwa => ?_
  have HB : Hid (Both W wa p x C C (thObj w.heap.size (actO (.int .i64 1) (.int .i64 n) (.int .i64 m) (.int .u8 (y.toNat : Int)) mo M.length mc) :: R)) := by rw [hwa]; exact Lib.hid (H.out.obj _)
  obtain ⟨B, hB⟩ : ∃ B, B = w.heap.size := ⟨_, rfl⟩
  rw [← hB] at HB ⊢
  clear hwa hB H
  go_loopw [7, 8] (fun s7 s8 wr => ∃ (i : Nat) (ro : Option Addr) (rc : Nat) (L : List Ms), s8 = .int .i64 i ∧ s7 = .slice ro i rc ∧ i ≤ M.length ∧ Hid (SdR W p x C M L i ro rc (thObj B (actO (.int .i64 1) (.int .i64 n) (.int .i64 m) (.int .u8 (y.toNat : Int)) mo M.length mc) :: R) wr)) (fun _ s8 _ => M.length - (intOf s8).toNat)
  case atStart => exact ⟨0, none, 0, [], rfl, rfl, by omega, Lib.hid ⟨rfl, by omega, by simp, (fun _ h => by simp at h), HB.out.new _ fun L hS => St.nilRow hS _ _⟩⟩
  case round =>
    obtain ⟨i, ro, rc, L, rfl, rfl, hi, HR⟩ := hrel
    obtain ⟨o0, o1, o2, o3, o4, hBs⟩ := sd_act HR.out.bo
    by_cases hlt : i < M.length
    · obtain ⟨b, off, rfl, hb, hr⟩ := HM.out (by omega)
      obtain ⟨f, t, ao, cap, bs, sp, hmi⟩ : ∃ f t ao cap bs sp, M[i] = ⟨f, t, ao, cap, bs, sp⟩ := ⟨_, _, _, _, _, _, rfl⟩
      obtain ⟨m0, m1, m2, hn0, hbat, hbl, hsp⟩ := hr i hlt
      rw [hmi] at m0 m1 m2 hn0 hbat hbl hsp
      dsimp only at m0 m1 m2 hn0 hbat hbl hsp
      subst hsp
      have Hmi := Lib.hid hmi
      have Hn0 := Lib.hid hn0
      have Hbat := Lib.hid hbat
      have HG : Hid (MgC W b (off + i * 3) f t ao bs.length cap) := Lib.hid ⟨m0, m1, m2, hb⟩
      clear hr hmi hn0 hbat m0 m1 m2 hb HB
      have hlti : (i : Int) < M.length := by omega
      go_wp2_with fail
      refine wp_name fun wb hwb => ?_
      subst hwb
      have HB1 := Lib.hid (HR.out.bo.grow (w' := wb.drew) (Below.refl _ _).drew)
      have HC : Hid ((fun w' : World => ActC B (.int .i64 1) (.int .i64 n) (.int .i64 m) (.int .u8 (y.toNat : Int)) (some ⟨b, off, none⟩) M.length mc w' ∧ MgC w' b (off + i * 3) f t ao bs.length cap) wb.drew) := Lib.hid ⟨sd_act HB1.out, HG.out.old HB1.out.b⟩
      clear o0 o1 o2 o3 o4 hBs
      refine wp_region_noPanic ?_
      refine wp_region_held (S := (fun w' : World => ActC B (.int .i64 1) (.int .i64 n) (.int .i64 m) (.int .u8 (y.toNat : Int)) (some ⟨b, off, none⟩) M.length mc w' ∧ MgC w' b (off + i * 3) f t ao bs.length cap)) (by kernel_rfl) ?_
      change wpAnyH _ _ _ _ _ _ _ _ (World.drew _)
      (refine takeD (i := 0) (v := ?v0x28) 28 rfl rfl (by kernel_rfl) (by kernel_rfl) (by kernel_rfl) (fun _ _ _ h => h) (Or.inl ⟨by rfl, ?hy0x28⟩) HC.out ?rest0x28; (case hy0x28 => (intro w hSw; (obtain ⟨⟨t0, t1, t2, t3, t4, t5⟩, s0, s1, s2, s3⟩ := hSw); go_simp; (try with_reducible rfl))); (try simp only [Act.put, List.setIfInBounds_toArray, List.set_cons_zero, List.set_cons_succ]))
      (refine takeD (i := 1) (v := ?v1x29) 29 rfl rfl (by kernel_rfl) (by kernel_rfl) (by kernel_rfl) (fun _ _ _ h => h) (Or.inl ⟨by rfl, ?hy1x29⟩) HC.out ?rest1x29; (case hy1x29 => (intro w hSw; (obtain ⟨⟨t0, t1, t2, t3, t4, t5⟩, s0, s1, s2, s3⟩ := hSw); go_simp; (try with_reducible rfl))); (try simp only [Act.put, List.setIfInBounds_toArray, List.set_cons_zero, List.set_cons_succ]))
      (refine takeD (i := 2) (v := ?v2x30) 30 rfl rfl (by kernel_rfl) (by kernel_rfl) (by kernel_rfl) (fun _ _ _ h => h) (Or.inl ⟨by rfl, ?hy2x30⟩) HC.out ?rest2x30; (case hy2x30 => (intro w hSw; (obtain ⟨⟨t0, t1, t2, t3, t4, t5⟩, s0, s1, s2, s3⟩ := hSw); go_simp; (try with_reducible rfl))); (try simp only [Act.put, List.setIfInBounds_toArray, List.set_cons_zero, List.set_cons_succ]))
      (refine takeD (i := 3) (v := ?v3x31) 31 rfl rfl (by kernel_rfl) (by kernel_rfl) (by kernel_rfl) (fun _ _ _ h => h) (Or.inl ⟨by rfl, ?hy3x31⟩) HC.out ?rest3x31; (case hy3x31 => (intro w hSw; (obtain ⟨⟨t0, t1, t2, t3, t4, t5⟩, s0, s1, s2, s3⟩ := hSw); go_simp; (try with_reducible rfl))); (try simp only [Act.put, List.setIfInBounds_toArray, List.set_cons_zero, List.set_cons_succ]))
      (refine takeD (i := 4) (v := ?v4x32) 32 rfl rfl (by kernel_rfl) (by kernel_rfl) (by kernel_rfl) (fun _ _ _ h => h) (Or.inl ⟨by rfl, ?hy4x32⟩) HC.out ?rest4x32; (case hy4x32 => (intro w hSw; (obtain ⟨⟨t0, t1, t2, t3, t4, t5⟩, s0, s1, s2, s3⟩ := hSw); go_simp; (try with_reducible rfl))); (try simp only [Act.put, List.setIfInBounds_toArray, List.set_cons_zero, List.set_cons_succ]))
      (refine takeD (i := 5) (v := ?v5x33) 33 rfl rfl (by kernel_rfl) (by kernel_rfl) (by kernel_rfl) (fun _ _ _ h => h) (Or.inl ⟨by rfl, ?hy5x33⟩) HC.out ?rest5x33; (case hy5x33 => (intro w hSw; (obtain ⟨⟨t0, t1, t2, t3, t4, t5⟩, s0, s1, s2, s3⟩ := hSw); go_simp; (try with_reducible rfl))); (try simp only [Act.put, List.setIfInBounds_toArray, List.set_cons_zero, List.set_cons_succ]))
      (refine takeD (i := 6) (v := ?v6x34) 34 rfl rfl (by kernel_rfl) (by kernel_rfl) (by kernel_rfl) (fun _ _ _ h => h) (Or.inl ⟨by rfl, ?hy6x34⟩) HC.out ?rest6x34; (case hy6x34 => (intro w hSw; (obtain ⟨⟨t0, t1, t2, t3, t4, t5⟩, s0, s1, s2, s3⟩ := hSw); go_simp; (try with_reducible rfl))); (try simp only [Act.put, List.setIfInBounds_toArray, List.set_cons_zero, List.set_cons_succ]))
      (refine takeD (i := 7) (v := ?v7x35) 35 rfl rfl (by kernel_rfl) (by kernel_rfl) (by kernel_rfl) (fun _ _ _ h => h) (Or.inl ⟨by rfl, ?hy7x35⟩) HC.out ?rest7x35; (case hy7x35 => (intro w hSw; (obtain ⟨⟨t0, t1, t2, t3, t4, t5⟩, s0, s1, s2, s3⟩ := hSw); go_simp; (try with_reducible rfl))); (try simp only [Act.put, List.setIfInBounds_toArray, List.set_cons_zero, List.set_cons_succ]))
      (refine takeD (i := 8) (v := ?v8x36) 36 rfl rfl (by kernel_rfl) (by kernel_rfl) (by kernel_rfl) (fun _ _ _ h => h) (Or.inl ⟨by rfl, ?hy8x36⟩) HC.out ?rest8x36; (case hy8x36 => (intro w hSw; (obtain ⟨⟨t0, t1, t2, t3, t4, t5⟩, s0, s1, s2, s3⟩ := hSw); go_simp; (try with_reducible rfl))); (try simp only [Act.put, List.setIfInBounds_toArray, List.set_cons_zero, List.set_cons_succ]))
      (refine takeD (i := 9) (v := ?v9x37) 37 rfl rfl (by kernel_rfl) (by kernel_rfl) (by kernel_rfl) (fun _ _ _ h => h) (Or.inl ⟨by rfl, ?hy9x37⟩) HC.out ?rest9x37; (case hy9x37 => (intro w hSw; (obtain ⟨⟨t0, t1, t2, t3, t4, t5⟩, s0, s1, s2, s3⟩ := hSw); go_simp; (try with_reducible rfl))); (try simp only [Act.put, List.setIfInBounds_toArray, List.set_cons_zero, List.set_cons_succ]))
      (refine takeD (i := 10) (v := ?v10x38) 38 rfl rfl (by kernel_rfl) (by kernel_rfl) (by kernel_rfl) (fun _ _ _ h => h) (Or.inl ⟨by rfl, ?hy10x38⟩) HC.out ?rest10x38; (case hy10x38 => (intro w hSw; (obtain ⟨⟨t0, t1, t2, t3, t4, t5⟩, s0, s1, s2, s3⟩ := hSw); go_simp; (try with_reducible rfl))); (try simp only [Act.put, List.setIfInBounds_toArray, List.set_cons_zero, List.set_cons_succ]))
      (refine takeD (i := 11) (v := ?v11x39) 39 rfl rfl (by kernel_rfl) (by kernel_rfl) (by kernel_rfl) (fun _ _ _ h => h) (Or.inl ⟨by rfl, ?hy11x39⟩) HC.out ?rest11x39; (case hy11x39 => (intro w hSw; (obtain ⟨⟨t0, t1, t2, t3, t4, t5⟩, s0, s1, s2, s3⟩ := hSw); go_simp; (try with_reducible rfl))); (try simp only [Act.put, List.setIfInBounds_toArray, List.set_cons_zero, List.set_cons_succ]))
      (refine takeD (i := 12) (v := ?v12x40) 40 rfl rfl (by kernel_rfl) (by kernel_rfl) (by kernel_rfl) (fun _ _ _ h => h) (Or.inl ⟨by rfl, ?hy12x40⟩) HC.out ?rest12x40; (case hy12x40 => (intro w hSw; (obtain ⟨⟨t0, t1, t2, t3, t4, t5⟩, s0, s1, s2, s3⟩ := hSw); go_simp; (try with_reducible rfl))); (try simp only [Act.put, List.setIfInBounds_toArray, List.set_cons_zero, List.set_cons_succ]))
      (refine takeD (i := 13) (v := ?v13x41) 41 rfl rfl (by kernel_rfl) (by kernel_rfl) (by kernel_rfl) (fun _ _ _ h => h) (Or.inl ⟨by rfl, ?hy13x41⟩) HC.out ?rest13x41; (case hy13x41 => (intro w hSw; (obtain ⟨⟨t0, t1, t2, t3, t4, t5⟩, s0, s1, s2, s3⟩ := hSw); go_simp; (try with_reducible rfl))); (try simp only [Act.put, List.setIfInBounds_toArray, List.set_cons_zero, List.set_cons_succ]))
      (refine takeD (i := 14) (v := ?v14x42) 42 rfl rfl (by kernel_rfl) (by kernel_rfl) (by kernel_rfl) (fun _ _ _ h => h) (Or.inl ⟨by rfl, ?hy14x42⟩) HC.out ?rest14x42; (case hy14x42 => (intro w hSw; (obtain ⟨⟨t0, t1, t2, t3, t4, t5⟩, s0, s1, s2, s3⟩ := hSw); go_simp; (try with_reducible rfl))); (try simp only [Act.put, List.setIfInBounds_toArray, List.set_cons_zero, List.set_cons_succ]))
      (refine takeD (i := 15) (v := ?v15x43) 43 rfl rfl (by kernel_rfl) (by kernel_rfl) (by kernel_rfl) (fun _ _ _ h => h) (Or.inl ⟨by rfl, ?hy15x43⟩) HC.out ?rest15x43; (case hy15x43 => (intro w hSw; (obtain ⟨⟨t0, t1, t2, t3, t4, t5⟩, s0, s1, s2, s3⟩ := hSw); go_simp; (try with_reducible rfl))); (try simp only [Act.put, List.setIfInBounds_toArray, List.set_cons_zero, List.set_cons_succ]))
      (refine takeD (i := 16) (v := ?v16x44) 44 rfl rfl (by kernel_rfl) (by kernel_rfl) (by kernel_rfl) (fun _ _ _ h => h) (Or.inl ⟨by rfl, ?hy16x44⟩) HC.out ?rest16x44; (case hy16x44 => (intro w hSw; (obtain ⟨⟨t0, t1, t2, t3, t4, t5⟩, s0, s1, s2, s3⟩ := hSw); go_simp; (try with_reducible rfl))); (try simp only [Act.put, List.setIfInBounds_toArray, List.set_cons_zero, List.set_cons_succ]))
      (refine takeD (i := 17) (v := ?v17x45) 45 rfl rfl (by kernel_rfl) (by kernel_rfl) (by kernel_rfl) (fun _ _ _ h => h) (Or.inl ⟨by rfl, ?hy17x45⟩) HC.out ?rest17x45; (case hy17x45 => (intro w hSw; (obtain ⟨⟨t0, t1, t2, t3, t4, t5⟩, s0, s1, s2, s3⟩ := hSw); go_simp; (try with_reducible rfl))); (try simp only [Act.put, List.setIfInBounds_toArray, List.set_cons_zero, List.set_cons_succ]))
      (refine takeD (i := 18) (v := ?v18x46) 46 rfl rfl (by kernel_rfl) (by kernel_rfl) (by kernel_rfl) (fun _ _ _ h => h) (Or.inl ⟨by rfl, ?hy18x46⟩) HC.out ?rest18x46; (case hy18x46 => (intro w hSw; (obtain ⟨⟨t0, t1, t2, t3, t4, t5⟩, s0, s1, s2, s3⟩ := hSw); go_simp; (try with_reducible rfl))); (try simp only [Act.put, List.setIfInBounds_toArray, List.set_cons_zero, List.set_cons_succ]))
      (refine takeD (i := 20) (v := ?v20x48) 48 rfl rfl (by kernel_rfl) (by kernel_rfl) (by kernel_rfl) (fun _ _ _ h => h) (Or.inl ⟨by rfl, ?hy20x48⟩) HC.out ?rest20x48; (case hy20x48 => (intro w hSw; (obtain ⟨⟨t0, t1, t2, t3, t4, t5⟩, s0, s1, s2, s3⟩ := hSw); go_simp; (try with_reducible rfl))); (try simp only [Act.put, List.setIfInBounds_toArray, List.set_cons_zero, List.set_cons_succ]))
      (refine takeD (i := 21) (v := ?v21x49) 49 rfl rfl (by kernel_rfl) (by kernel_rfl) (by kernel_rfl) (fun _ _ _ h => h) (Or.inl ⟨by rfl, ?hy21x49⟩) HC.out ?rest21x49; (case hy21x49 => (intro w hSw; (obtain ⟨⟨t0, t1, t2, t3, t4, t5⟩, s0, s1, s2, s3⟩ := hSw); go_simp; (try with_reducible rfl))); (try simp only [Act.put, List.setIfInBounds_toArray, List.set_cons_zero, List.set_cons_succ]))
      (refine takeD (i := 22) (v := ?v22x50) 50 rfl rfl (by kernel_rfl) (by kernel_rfl) (by kernel_rfl) (fun _ _ _ h => h) (Or.inl ⟨by rfl, ?hy22x50⟩) HC.out ?rest22x50; (case hy22x50 => (intro w hSw; (obtain ⟨⟨t0, t1, t2, t3, t4, t5⟩, s0, s1, s2, s3⟩ := hSw); go_simp; (try with_reducible rfl))); (try simp only [Act.put, List.setIfInBounds_toArray, List.set_cons_zero, List.set_cons_succ]))
      (refine takeD (i := 23) (v := ?v23x51) 51 rfl rfl (by kernel_rfl) (by kernel_rfl) (by kernel_rfl) (fun _ _ _ h => h) (Or.inl ⟨by rfl, ?hy23x51⟩) HC.out ?rest23x51; (case hy23x51 => (intro w hSw; (obtain ⟨⟨t0, t1, t2, t3, t4, t5⟩, s0, s1, s2, s3⟩ := hSw); go_simp; (try with_reducible rfl))); (try simp only [Act.put, List.setIfInBounds_toArray, List.set_cons_zero, List.set_cons_succ]))
      (refine takeD (i := 24) (v := ?v24x52) 52 rfl rfl (by kernel_rfl) (by kernel_rfl) (by kernel_rfl) (fun _ _ _ h => h) (Or.inl ⟨by rfl, ?hy24x52⟩) HC.out ?rest24x52; (case hy24x52 => (intro w hSw; (obtain ⟨⟨t0, t1, t2, t3, t4, t5⟩, s0, s1, s2, s3⟩ := hSw); go_simp; (try with_reducible rfl))); (try simp only [Act.put, List.setIfInBounds_toArray, List.set_cons_zero, List.set_cons_succ]))
      (refine takeD (i := 25) (v := ?v25x53) 53 rfl rfl (by kernel_rfl) (by kernel_rfl) (by kernel_rfl) (fun _ _ _ h => h) (Or.inl ⟨by rfl, ?hy25x53⟩) HC.out ?rest25x53; (case hy25x53 => (intro w hSw; (obtain ⟨⟨t0, t1, t2, t3, t4, t5⟩, s0, s1, s2, s3⟩ := hSw); go_simp; (try with_reducible rfl))); (try simp only [Act.put, List.setIfInBounds_toArray, List.set_cons_zero, List.set_cons_succ]))
      (refine takeD (i := 26) (v := ?v26x54) 54 rfl rfl (by kernel_rfl) (by kernel_rfl) (by kernel_rfl) (fun _ _ _ h => h) (Or.inl ⟨by rfl, ?hy26x54⟩) HC.out ?rest26x54; (case hy26x54 => (intro w hSw; (obtain ⟨⟨t0, t1, t2, t3, t4, t5⟩, s0, s1, s2, s3⟩ := hSw); go_simp; (try with_reducible rfl))); (try simp only [Act.put, List.setIfInBounds_toArray, List.set_cons_zero, List.set_cons_succ]))
      (refine wpAnyH_all (rs := [19]) (by kernel_rfl) (by simp) (fun i' hi' => ?_); (obtain rfl : i' = 19 := by simpa using hi'); clear hi'; (refine wpOp_step rfl (fun K' hK' => ?_)))
      go_simp
      refine (roomy_any ao cap bs wb.drew Hn0.out (Hbat.out.below HB1.out.b) hbl).mono ?_
      rintro e w1 ⟨g, c, rfl, ho, hb1⟩
      have hle := ho.le
      simp only [List.length_append, List.length_cons, List.length_nil] at hle
      have hle2 : bs.length ≤ c := by omega
      have ho2 : OwnB w1 wb.drew.heap.size (some ⟨g, 0, none⟩) c bs := by have := own_short ho bs.length (by simp); rwa [List.take_left] at this
      have HB2 := Lib.hid (HB1.out.own hb1 ho2)
      have HC1 : Hid ((fun w' : World => ActC B (.int .i64 1) (.int .i64 n) (.int .i64 m) (.int .u8 (y.toNat : Int)) (some ⟨b, off, none⟩) M.length mc w' ∧ MgC w' b (off + i * 3) f t ao bs.length cap) w1) := Lib.hid ⟨sd_act HB2.out.drop, HG.out.old HB2.out.b⟩
      refine hK' _ _ ⟨HC1.out, ?_⟩
      clear hK' K' HB1 HC ho ho2 hb1
      have HC := HC1
      clear HC1
      try simp only [Act.put, List.setIfInBounds_toArray, List.set_cons_zero, List.set_cons_succ]
      (refine takeD (i := 27) (v := ?v27x55) 55 rfl rfl (by kernel_rfl) (by kernel_rfl) (by kernel_rfl) (fun _ _ _ h => h) (Or.inl ⟨by rfl, ?hy27x55⟩) HC.out ?rest27x55; (case hy27x55 => (intro w hSw; (obtain ⟨⟨t0, t1, t2, t3, t4, t5⟩, s0, s1, s2, s3⟩ := hSw); go_simp; (try with_reducible rfl))); (try simp only [Act.put, List.setIfInBounds_toArray, List.set_cons_zero, List.set_cons_succ]))
      (refine takeD (i := 28) (v := ?v28x56) 56 rfl rfl (by kernel_rfl) (by kernel_rfl) (by kernel_rfl) (fun _ _ _ h => h) (Or.inl ⟨by rfl, ?hy28x56⟩) HC.out ?rest28x56; (case hy28x56 => (intro w hSw; (obtain ⟨⟨t0, t1, t2, t3, t4, t5⟩, s0, s1, s2, s3⟩ := hSw); go_simp; (try with_reducible rfl))); (try simp only [Act.put, List.setIfInBounds_toArray, List.set_cons_zero, List.set_cons_succ]))
      (refine wpAnyH_all (rs := [29]) (by kernel_rfl) (by simp) (fun i' hi' => ?_); (obtain rfl : i' = 29 := by simpa using hi'); clear hi'; (refine wpOp_step rfl (fun K' hK' => ?_)))
      go_simp
      have HC1 : Hid ((fun w' : World => ActC B (.int .i64 1) (.int .i64 n) (.int .i64 m) (.int .u8 (y.toNat : Int)) (some ⟨b, off, none⟩) M.length mc w' ∧ MgC w' b (off + i * 3) f t ao bs.length cap) (w1.alloc (.cells #[.int .i64 f, .int .i64 t, .slice (some ⟨g, 0, none⟩) bs.length c] 35))) := Lib.hid ⟨sd_act (HB2.out.obj _).drop.drop, HG.out.old (HB2.out.obj (.cells #[.int .i64 f, .int .i64 t, .slice (some ⟨g, 0, none⟩) bs.length c] 35)).b⟩
      refine hK' _ _ ⟨HC1.out, ?_⟩
      clear hK' K' HC
      have HC := HC1
      clear HC1
      try simp only [Act.put, List.setIfInBounds_toArray, List.set_cons_zero, List.set_cons_succ]
      (refine wpAnyH_all (rs := [30]) (by kernel_rfl) (by simp) (fun i' hi' => ?_); (obtain rfl : i' = 30 := by simpa using hi'); clear hi'; (refine wpOp_step rfl (fun K' hK' => ?_)))
      have hrow : w1.ownsRow W.heap.size 35 3 (.slice ro i rc) i (msG3 L) := HB2.out.drop.mem List.mem_cons_self
      have hWb := HB2.out.b.size
      refine step_append_lies _ rfl (.tmp 28) (.tmp 57) 22 rfl W.heap.size 35 i0 (.agg #[.int .i64 0, .int .i64 0, .slice none 0 0]) 3 40 Try.underlying22 hii hz0 hz1 hz2 rfl (by decide) (.slice ro i rc) i (msG3 L) rfl (hrow.alloc _) ⟨w1.heap.size, 0, none⟩ 1 1 (msG3 [⟨f, t, some ⟨g, 0, none⟩, c, bs, false⟩]) rfl rfl ?cells (msG3_one _) (by decide) (by unfold maxLen; omega) (by omega) (by simp; omega) (w1.heap.size + 1) (by simp) ?_
      case cells => exact World.news_of_block (heap_new w1 (.cells #[.int .i64 f, .int .i64 t, .slice (some ⟨g, 0, none⟩) bs.length c] 35))
      intro g2 c2 w3 hown hgrow hg2 hlt2
      have HB3 := Lib.hid (sd_app HB2.out hown hgrow hg2)
      have HC1 : Hid ((fun w' : World => ActC B (.int .i64 1) (.int .i64 n) (.int .i64 m) (.int .u8 (y.toNat : Int)) (some ⟨b, off, none⟩) M.length mc w' ∧ MgC w' b (off + i * 3) f t ao bs.length cap) w3) := Lib.hid ⟨sd_act HB3.out, HG.out.old HB3.out.b⟩
      refine hK' _ _ ⟨HC1.out, ?_⟩
      clear hK' K' HC hrow hown hgrow hg2 HB2
      have HC := HC1
      clear HC1
      try simp only [Act.put, List.setIfInBounds_toArray]
      (refine takeD (i := 31) (v := ?v31x7) 7 rfl rfl (by kernel_rfl) (by kernel_rfl) (by kernel_rfl) (fun _ _ _ h => h) (Or.inl ⟨by rfl, ?hy31x7⟩) HC.out ?rest31x7; (case hy31x7 => (intro w hSw; (obtain ⟨⟨t0, t1, t2, t3, t4, t5⟩, s0, s1, s2, s3⟩ := hSw); go_simp; (try with_reducible rfl))); (try simp only [Act.put]))
      refine wpAnyH_done (by kernel_rfl) ?_ _
      refine NoPanic.normal ?_
      go_wp2_with fail
      go_roundw
      case rel => exact ⟨i + 1, some ⟨g2, 0, none⟩, c2, _, by go_num, rfl, by omega, Lib.hid ⟨by rw [List.length_append, HR.out.ll]; rfl, by omega, by rw [List.map_append, HR.out.cts, List.take_succ_eq_append_getElem hlt, List.map_append, Hmi.out]; rfl, fun z hz => by
          rcases List.mem_append.1 hz with h | h
          · exact HR.out.bd z h
          · obtain rfl := List.mem_singleton.1 h
            exact ⟨hbl, rfl⟩, HB3.out⟩⟩
      case measure => simp [intOf]; omega
    · obtain rfl : i = M.length := by omega
      clear HB
      go_wp2_with fail
      refine wp_name fun wb hwb => ?_
      subst hwb
      have HB1 := Lib.hid (HR.out.bo.grow (w' := wb.drew) (Below.refl _ _).drew)
      have HC : Hid (ActC B (.int .i64 1) (.int .i64 n) (.int .i64 m) (.int .u8 (y.toNat : Int)) mo M.length mc wb.drew) := Lib.hid (sd_act HB1.out)
      clear o0 o1 o2 o3 o4 hBs
      refine wp_region_noPanic ?_
      refine wp_region_held (S := ActC B (.int .i64 1) (.int .i64 n) (.int .i64 m) (.int .u8 (y.toNat : Int)) mo M.length mc) (by kernel_rfl) ?_
      change wpAnyH _ _ _ _ _ _ _ _ (World.drew _)
      (refine takeD (i := 0) (v := ?v0x59) 59 rfl rfl (by kernel_rfl) (by kernel_rfl) (by kernel_rfl) (fun _ _ _ h => h) (Or.inl ⟨by rfl, ?hy0x59⟩) HC.out ?rest0x59; (case hy0x59 => (intro w hSw; (obtain ⟨t0, t1, t2, t3, t4, t5⟩ := hSw); go_simp; (try with_reducible rfl))); (try simp only [Act.put, List.setIfInBounds_toArray, List.set_cons_zero, List.set_cons_succ]))
      (refine takeD (i := 1) (v := ?v1x60) 60 rfl rfl (by kernel_rfl) (by kernel_rfl) (by kernel_rfl) (fun _ _ _ h => h) (Or.inl ⟨by rfl, ?hy1x60⟩) HC.out ?rest1x60; (case hy1x60 => (intro w hSw; (obtain ⟨t0, t1, t2, t3, t4, t5⟩ := hSw); go_simp; (try with_reducible rfl))); (try simp only [Act.put, List.setIfInBounds_toArray, List.set_cons_zero, List.set_cons_succ]))
      (refine takeD (i := 3) (v := ?v3x62) 62 rfl rfl (by kernel_rfl) (by kernel_rfl) (by kernel_rfl) (fun _ _ _ h => h) (Or.inl ⟨by rfl, ?hy3x62⟩) HC.out ?rest3x62; (case hy3x62 => (intro w hSw; (obtain ⟨t0, t1, t2, t3, t4, t5⟩ := hSw); go_simp; (try with_reducible rfl))); (try simp only [Act.put, List.setIfInBounds_toArray, List.set_cons_zero, List.set_cons_succ]))
      (refine takeD (i := 4) (v := ?v4x63) 63 rfl rfl (by kernel_rfl) (by kernel_rfl) (by kernel_rfl) (fun _ _ _ h => h) (Or.inl ⟨by rfl, ?hy4x63⟩) HC.out ?rest4x63; (case hy4x63 => (intro w hSw; (obtain ⟨t0, t1, t2, t3, t4, t5⟩ := hSw); go_simp; (try with_reducible rfl))); (try simp only [Act.put, List.setIfInBounds_toArray, List.set_cons_zero, List.set_cons_succ]))
      (refine takeD (i := 5) (v := ?v5x64) 64 rfl rfl (by kernel_rfl) (by kernel_rfl) (by kernel_rfl) (fun _ _ _ h => h) (Or.inl ⟨by rfl, ?hy5x64⟩) HC.out ?rest5x64; (case hy5x64 => (intro w hSw; (obtain ⟨t0, t1, t2, t3, t4, t5⟩ := hSw); go_simp; (try with_reducible rfl))); (try simp only [Act.put, List.setIfInBounds_toArray, List.set_cons_zero, List.set_cons_succ]))
      obtain ⟨z, hz⟩ : ∃ z, z = fits C.length M.length := ⟨_, rfl⟩
      have Hz := Lib.hid hz
      have hC' : C ++ (L.take z).map ct = C ++ (M.take z).map ct := by
        rw [List.map_take, HR.out.cts, List.take_length, ← List.map_take]
      obtain ⟨C', hCC⟩ : ∃ C', C' = C ++ (M.take z).map ct := ⟨_, rfl⟩
      have Hml := Lib.hid HR.out.ll
      have hs := send_b HB1.out ro rc L (sd_ms Hml.out HR.out.bd) (by rw [Hml.out]; omega) M.length Hml.out.symm z hz
      rw [hC', ← hCC] at hs
      have hrs := fun w2 R2 (hb : Both W w2 p x C' C R2) => rsend_b hb mo mc M (fun w' X hS => HM.out.grow hS.b) (by omega) M.length rfl z hz
      rw [← hCC] at hrs
      have Hs := Lib.hid hs
      have Hrs := Lib.hid hrs
      have HCC := Lib.hid hCC
      clear hs hrs hCC hC' hz
      (refine wpAnyH_all (rs := [2]) (by kernel_rfl) (by simp) (fun i' hi' => ?_); (obtain rfl : i' = 2 := by simpa using hi'); clear hi'; (refine wpOp_step rfl (fun K' hK' => ?_)))
      go_simp
      refine Hs.out.mono ?_
      rintro e w1 ⟨rfl, hB1⟩
      have HB2 := Lib.hid hB1
      have HC1 : Hid (ActC B (.int .i64 1) (.int .i64 n) (.int .i64 m) (.int .u8 (y.toNat : Int)) mo M.length mc w1) := Lib.hid (sd_act HB2.out)
      refine hK' _ _ ⟨HC1.out, ?_⟩
      clear hK' K' HC hB1 HB1 Hs
      have HC := HC1
      clear HC1
      try simp only [Act.put, List.setIfInBounds_toArray, List.set_cons_zero, List.set_cons_succ]
      (refine wpAnyH_all (rs := [6]) (by kernel_rfl) (by simp) (fun i' hi' => ?_); (obtain rfl : i' = 6 := by simpa using hi'); clear hi'; (refine wpOp_step rfl (fun K' hK' => ?_)))
      go_simp
      refine (Hrs.out _ _ HB2.out).mono ?_
      rintro e w2 ⟨rfl, hB1⟩
      have HB3 := Lib.hid hB1
      have HC1 : Hid (ActC B (.int .i64 1) (.int .i64 n) (.int .i64 m) (.int .u8 (y.toNat : Int)) mo M.length mc w2) := Lib.hid (sd_act HB3.out)
      refine hK' _ _ ⟨HC1.out, ?_⟩
      clear hK' K' HC hB1 HB2 Hrs
      have HC := HC1
      clear HC1
      try simp only [Act.put, List.setIfInBounds_toArray, List.set_cons_zero, List.set_cons_succ]
      (refine takeD (i := 7) (v := ?v7x9) 9 rfl rfl (by kernel_rfl) (by kernel_rfl) (by kernel_rfl) (fun _ _ _ h => h) (Or.inl ⟨by rfl, ?hy7x9⟩) HC.out ?rest7x9; (case hy7x9 => (intro w hSw; (obtain ⟨t0, t1, t2, t3, t4, t5⟩ := hSw); go_simp; (try with_reducible rfl))); (try simp only [Act.put, List.setIfInBounds_toArray, List.set_cons_zero, List.set_cons_succ]))
      (refine takeD (i := 8) (v := ?v8x10) 10 rfl rfl (by kernel_rfl) (by kernel_rfl) (by kernel_rfl) (fun _ _ _ h => h) (Or.inl ⟨by rfl, ?hy8x10⟩) HC.out ?rest8x10; (case hy8x10 => (intro w hSw; (obtain ⟨t0, t1, t2, t3, t4, t5⟩ := hSw); go_simp; (try with_reducible rfl))); (try simp only [Act.put, List.setIfInBounds_toArray, List.set_cons_zero, List.set_cons_succ]))
      refine wpAnyH_done (by kernel_rfl) ?_ _
      refine NoPanic.normal ?_
      have HR0 : Hid (L.map ct = M.map ct) := by rw [HR.out.cts, List.take_length]; exact Lib.hid rfl
      have Hbd := Lib.hid HR.out.bd
      clear HR HC
      go_wp2_with fail
      go_loopw [11] (fun s11 wr => ∃ k : Nat, s11 = .int .i64 k ∧ k ≤ M.length ∧ Hid (Both W wr p x C' C' (sdL W ro M.length rc L (L.drop k) (thObj B (actO (.int .i64 1) (.int .i64 n) (.int .i64 m) (.int .u8 (y.toNat : Int)) mo M.length mc) :: R)))) (fun s11 _ => M.length - (intOf s11).toNat)
      case atStart => exact ⟨0, rfl, by omega, HB3⟩
      case round =>
        obtain ⟨k, rfl, hk, HBk⟩ := hrel
        by_cases hlt : k < M.length
        · have hkL : k < L.length := by rw [Hml.out]; exact hlt
          obtain ⟨b, off, rfl, hb, hr⟩ := HM.out (by omega)
          obtain ⟨f, t, ao, cap, bs, sp, hmi⟩ : ∃ f t ao cap bs sp, M[k] = ⟨f, t, ao, cap, bs, sp⟩ := ⟨_, _, _, _, _, _, rfl⟩
          obtain ⟨m0, m1, m2, -, hbat, hbl, -⟩ := hr k hlt
          rw [hmi] at m0 m1 m2 hbat hbl
          dsimp only at m0 m1 m2 hbat hbl
          have hlk : ct L[k] = ct M[k] := by
            have h1 := congrArg (fun l => l[k]?) HR0.out
            simpa [hkL, hlt] using h1
          obtain ⟨lf, lt, lo, lcap, lbs, lsp, hml⟩ : ∃ lf lt lo lcap lbs lsp, L[k] = ⟨lf, lt, lo, lcap, lbs, lsp⟩ := ⟨_, _, _, _, _, _, rfl⟩
          rw [hmi, hml] at hlk
          simp only [ct, Prod.mk.injEq] at hlk
          obtain ⟨rfl, rfl, rfl, -⟩ := hlk
          have hdrop : L.drop k = ⟨lf, lt, lo, lcap, lbs, lsp⟩ :: L.drop (k + 1) := by rw [List.drop_eq_getElem_cons hkL, hml]
          have Hdrop := Lib.hid hdrop
          have Hbat := Lib.hid hbat
          have HG : Hid (MgC W b (off + k * 3) lf lt ao lbs.length cap) := Lib.hid ⟨m0, m1, m2, hb⟩
          have hrow : wr.ownsRow W.heap.size 35 3 (.slice ro M.length rc) M.length (msG3 L) := HBk.out.mem List.mem_cons_self
          obtain ⟨g, rfl, hgl⟩ := row_form hrow (by omega)
          have HL : ∀ w' X', Both W w' p x C' C' (sdL W (some ⟨g, 0, none⟩) M.length rc L X' (thObj B (actO (.int .i64 1) (.int .i64 n) (.int .i64 m) (.int .u8 (y.toNat : Int)) (some ⟨b, off, none⟩) M.length mc) :: R)) → MgC w' g (k * 3) lf lt lo lbs.length lcap := fun w' X' hB => by
            have hrow : w'.ownsRow W.heap.size 35 3 (.slice (some ⟨g, 0, none⟩) M.length rc) M.length (msG3 L) := hB.mem List.mem_cons_self
            have hc : ∀ j, j < 3 → w'.cell? ⟨g, k * 3 + j, none⟩ = [Value.int .i64 lf, .int .i64 lt, .slice lo lbs.length lcap][j]? := fun j hj => by
              rw [World.ownsRow.cellAt hrow _ (by omega), msG3_get L k hkL j hj, hml]
            obtain ⟨g', e, hg'⟩ := row_form hrow (by omega)
            cases e
            exact ⟨hc 0 (by omega), hc 1 (by omega), hc 2 (by omega), hg'⟩
          have HL := Lib.hid HL
          clear hr hmi hbat m0 m1 m2 hb hml hdrop hrow
          have hlti : (k : Int) < M.length := by omega
          obtain ⟨⟨o0, o1, o2, o3, o4, hBs⟩, ⟨s0, s1, s2, s3⟩, r0, r1, r2, r3⟩ : (fun w' : World => ActC B (.int .i64 1) (.int .i64 n) (.int .i64 m) (.int .u8 (y.toNat : Int)) (some ⟨b, off, none⟩) M.length mc w' ∧ MgC w' b (off + k * 3) lf lt ao lbs.length cap ∧ MgC w' g (k * 3) lf lt lo lbs.length lcap) wr := ⟨sd_act HBk.out, HG.out.old HBk.out.b, HL.out _ _ HBk.out⟩
          go_wp2_with fail
          refine wp_name fun wb hwb => ?_
          subst hwb
          have HB1 := Lib.hid (HBk.out.grow (w' := wb.drew) (Below.refl _ _).drew)
          have HC : Hid ((fun w' : World => ActC B (.int .i64 1) (.int .i64 n) (.int .i64 m) (.int .u8 (y.toNat : Int)) (some ⟨b, off, none⟩) M.length mc w' ∧ MgC w' b (off + k * 3) lf lt ao lbs.length cap ∧ MgC w' g (k * 3) lf lt lo lbs.length lcap) wb.drew) := Lib.hid ⟨sd_act HB1.out, HG.out.old HB1.out.b, HL.out _ _ HB1.out⟩
          clear o0 o1 o2 o3 o4 hBs s0 s1 s2 s3 r0 r1 r2 r3
          refine wp_region_noPanic ?_
          refine wp_region_held (S := (fun w' : World => ActC B (.int .i64 1) (.int .i64 n) (.int .i64 m) (.int .u8 (y.toNat : Int)) (some ⟨b, off, none⟩) M.length mc w' ∧ MgC w' b (off + k * 3) lf lt ao lbs.length cap ∧ MgC w' g (k * 3) lf lt lo lbs.length lcap)) (by kernel_rfl) ?_
          change wpAnyH _ _ _ _ _ _ _ _ (World.drew _)
          (refine takeD (i := 0) (v := ?v0x72) 72 rfl rfl (by kernel_rfl) (by kernel_rfl) (by kernel_rfl) (fun _ _ _ h => h) (Or.inl ⟨by rfl, ?hy0x72⟩) HC.out ?rest0x72; (case hy0x72 => (intro w hSw; (obtain ⟨⟨t0, t1, t2, t3, t4, t5⟩, ⟨s0, s1, s2, s3⟩, r0, r1, r2, r3⟩ := hSw); go_simp; (try with_reducible rfl))); (try simp only [Act.put, List.setIfInBounds_toArray, List.set_cons_zero, List.set_cons_succ]))
          (refine takeD (i := 1) (v := ?v1x73) 73 rfl rfl (by kernel_rfl) (by kernel_rfl) (by kernel_rfl) (fun _ _ _ h => h) (Or.inl ⟨by rfl, ?hy1x73⟩) HC.out ?rest1x73; (case hy1x73 => (intro w hSw; (obtain ⟨⟨t0, t1, t2, t3, t4, t5⟩, ⟨s0, s1, s2, s3⟩, r0, r1, r2, r3⟩ := hSw); go_simp; (try with_reducible rfl))); (try simp only [Act.put, List.setIfInBounds_toArray, List.set_cons_zero, List.set_cons_succ]))
          (refine takeD (i := 2) (v := ?v2x74) 74 rfl rfl (by kernel_rfl) (by kernel_rfl) (by kernel_rfl) (fun _ _ _ h => h) (Or.inl ⟨by rfl, ?hy2x74⟩) HC.out ?rest2x74; (case hy2x74 => (intro w hSw; (obtain ⟨⟨t0, t1, t2, t3, t4, t5⟩, ⟨s0, s1, s2, s3⟩, r0, r1, r2, r3⟩ := hSw); go_simp; (try with_reducible rfl))); (try simp only [Act.put, List.setIfInBounds_toArray, List.set_cons_zero, List.set_cons_succ]))
          (refine takeD (i := 3) (v := ?v3x75) 75 rfl rfl (by kernel_rfl) (by kernel_rfl) (by kernel_rfl) (fun _ _ _ h => h) (Or.inl ⟨by rfl, ?hy3x75⟩) HC.out ?rest3x75; (case hy3x75 => (intro w hSw; (obtain ⟨⟨t0, t1, t2, t3, t4, t5⟩, ⟨s0, s1, s2, s3⟩, r0, r1, r2, r3⟩ := hSw); go_simp; (try with_reducible rfl))); (try simp only [Act.put, List.setIfInBounds_toArray, List.set_cons_zero, List.set_cons_succ]))
          (refine takeD (i := 4) (v := ?v4x76) 76 rfl rfl (by kernel_rfl) (by kernel_rfl) (by kernel_rfl) (fun _ _ _ h => h) (Or.inl ⟨by rfl, ?hy4x76⟩) HC.out ?rest4x76; (case hy4x76 => (intro w hSw; (obtain ⟨⟨t0, t1, t2, t3, t4, t5⟩, ⟨s0, s1, s2, s3⟩, r0, r1, r2, r3⟩ := hSw); go_simp; (try with_reducible rfl))); (try simp only [Act.put, List.setIfInBounds_toArray, List.set_cons_zero, List.set_cons_succ]))
          (refine takeD (i := 5) (v := ?v5x77) 77 rfl rfl (by kernel_rfl) (by kernel_rfl) (by kernel_rfl) (fun _ _ _ h => h) (Or.inl ⟨by rfl, ?hy5x77⟩) HC.out ?rest5x77; (case hy5x77 => (intro w hSw; (obtain ⟨⟨t0, t1, t2, t3, t4, t5⟩, ⟨s0, s1, s2, s3⟩, r0, r1, r2, r3⟩ := hSw); go_simp; (try with_reducible rfl))); (try simp only [Act.put, List.setIfInBounds_toArray, List.set_cons_zero, List.set_cons_succ]))
          (refine takeD (i := 6) (v := ?v6x78) 78 rfl rfl (by kernel_rfl) (by kernel_rfl) (by kernel_rfl) (fun _ _ _ h => h) (Or.inl ⟨by rfl, ?hy6x78⟩) HC.out ?rest6x78; (case hy6x78 => (intro w hSw; (obtain ⟨⟨t0, t1, t2, t3, t4, t5⟩, ⟨s0, s1, s2, s3⟩, r0, r1, r2, r3⟩ := hSw); go_simp; (try with_reducible rfl))); (try simp only [Act.put, List.setIfInBounds_toArray, List.set_cons_zero, List.set_cons_succ]))
          (refine takeD (i := 7) (v := ?v7x79) 79 rfl rfl (by kernel_rfl) (by kernel_rfl) (by kernel_rfl) (fun _ _ _ h => h) (Or.inl ⟨by rfl, ?hy7x79⟩) HC.out ?rest7x79; (case hy7x79 => (intro w hSw; (obtain ⟨⟨t0, t1, t2, t3, t4, t5⟩, ⟨s0, s1, s2, s3⟩, r0, r1, r2, r3⟩ := hSw); go_simp; (try with_reducible rfl))); (try simp only [Act.put, List.setIfInBounds_toArray, List.set_cons_zero, List.set_cons_succ]))
          (refine takeD (i := 8) (v := ?v8x80) 80 rfl rfl (by kernel_rfl) (by kernel_rfl) (by kernel_rfl) (fun _ _ _ h => h) (Or.inl ⟨by rfl, ?hy8x80⟩) HC.out ?rest8x80; (case hy8x80 => (intro w hSw; (obtain ⟨⟨t0, t1, t2, t3, t4, t5⟩, ⟨s0, s1, s2, s3⟩, r0, r1, r2, r3⟩ := hSw); go_simp; (try with_reducible rfl))); (try simp only [Act.put, List.setIfInBounds_toArray, List.set_cons_zero, List.set_cons_succ]))
          have hcal := fun w' hb ho => message_any lf lt lo lcap lbs lf lt ao cap lbs w' ho hb (by omega) (by omega) true (by simp)
          have hDh : OwnB wb.drew W.heap.size lo lcap lbs := HB1.out.mem (t := thD W.heap.size ⟨lf, lt, lo, lcap, lbs, lsp⟩) (List.mem_cons_of_mem _ (List.mem_append.2 (.inl (List.mem_map_of_mem (by rw [Hdrop.out]; exact List.mem_cons_self)))))
          (refine wpAnyH_all (rs := [9]) (by kernel_rfl) (by simp) (fun i' hi' => ?_); (obtain rfl : i' = 9 := by simpa using hi'); clear hi'; (refine wpOp_step rfl (fun K' hK' => ?_)))
          go_simp
          refine (hcal wb.drew (Hbat.out.below HB1.out.b) hDh.at).mono ?_
          rintro e w1 ⟨rfl, hb1⟩
          have HB2 := Lib.hid (HB1.out.grow hb1)
          have HC1 : Hid ((fun w' : World => ActC B (.int .i64 1) (.int .i64 n) (.int .i64 m) (.int .u8 (y.toNat : Int)) (some ⟨b, off, none⟩) M.length mc w' ∧ MgC w' b (off + k * 3) lf lt ao lbs.length cap ∧ MgC w' g (k * 3) lf lt lo lbs.length lcap) w1) := Lib.hid ⟨sd_act HB2.out, HG.out.old HB2.out.b, HL.out _ _ HB2.out⟩
          refine hK' _ _ ⟨HC1.out, ?_⟩
          clear hK' K' HC hb1 HB1 hcal hDh
          have HC := HC1
          clear HC1
          try simp only [Act.put, List.setIfInBounds_toArray, List.set_cons_zero, List.set_cons_succ]
          (refine takeD (i := 10) (v := ?v10x82) 82 rfl rfl (by kernel_rfl) (by kernel_rfl) (by kernel_rfl) (fun _ _ _ h => h) (Or.inl ⟨by rfl, ?hy10x82⟩) HC.out ?rest10x82; (case hy10x82 => (intro w hSw; (obtain ⟨⟨t0, t1, t2, t3, t4, t5⟩, ⟨s0, s1, s2, s3⟩, r0, r1, r2, r3⟩ := hSw); go_simp; (try with_reducible rfl))); (try simp only [Act.put, List.setIfInBounds_toArray, List.set_cons_zero, List.set_cons_succ]))
          refine wpAnyH_done (by kernel_rfl) ?_ _
          refine NoPanic.normal ?_
          obtain ⟨⟨o0, o1, o2, o3, o4, hBs⟩, ⟨s0, s1, s2, s3⟩, r0, r1, r2, r3⟩ := HC.out
          go_wp2_with fail
          have HB3 : Hid (Both W w1 p x C' C' (thOwn W.heap.size lo lcap lbs :: sdL W (some ⟨g, 0, none⟩) M.length rc L (L.drop (k + 1)) (thObj B (actO (.int .i64 1) (.int .i64 n) (.int .i64 m) (.int .u8 (y.toNat : Int)) (some ⟨b, off, none⟩) M.length mc) :: R))) := by
            have := HB2.out
            rw [Hdrop.out] at this
            exact Lib.hid (this.perm (List.Perm.swap _ _ _))
          have hDh : OwnB w1 W.heap.size lo lcap lbs := HB3.out.mem List.mem_cons_self
          refine (spoil_at lbs.length lo lcap W.heap.size lbs w1 hDh rfl HB3.out.b.size hbl).mono ?_
          rintro e w2 ⟨rfl, hk⟩
          have HB4 := Lib.hid (HB3.out.lose hk)
          clear hk hDh HB3 HB2 HC o0 o1 o2 o3 o4 hBs s0 s1 s2 s3 r0 r1 r2 r3
          go_wp2_with fail
          go_roundw
          case rel => exact ⟨k + 1, by go_num, by omega, HB4⟩
          case measure => simp [intOf]; omega
        · have hzz : ((z : Int) == z) = true := by simp
          go_wp2_with fail
          go_ret
          refine ⟨rfl, ?_⟩
          have hkk : k = L.length := by rw [Hml.out]; omega
          have hf := HBk.out
          rw [hkk, List.drop_length] at hf
          have h3 := hf.drop.drop
          rw [HCC.out, Hz.out] at h3
          exact h3
end Go.Proofs.Ytcboflabjdiadaa
