/- The law OctetTakes: any bytes, taken as somebody asks. -/
import Derived.Test.YtofkjogjnhnchaaTakesObj
import Derived.Test.YtofkjogjnhnchaaRows
import Derived.Deep.DeepCutAuto
namespace Go.Proofs.Ytofkjogjnhnchaa
open Go.RowKit

def IAt (w : World) (ao : Option Addr) (l : List Int) : Prop := 0 < l.length → ∃ b off, ao = some ⟨b, off, none⟩ ∧ b < w.heap.size ∧ ∀ i, (hi : i < l.length) → w.cell? ⟨b, off + i, none⟩ = some (.int .i64 l[i])

/-- The state of the walk: both Readers hold the same; the roomy bytes stand. -/
def TS (w0 w : World) (p g p' g' x xc : Nat) (bs rest : List UInt8) (bad : Bool) : Prop :=
  St w0 w [thRd p g rest bad, thRR p' g' rest bad, thOwn w0.heap.size (some ⟨x, 0, none⟩) xc (bs ++ [171])]
set_option maxRecDepth 100000 in
set_option maxHeartbeats 16000000 in
theorem takes_walk (ao ko no : Option Addr) (cap kc nc : Nat) (bs : List UInt8) (ks ns : List Int) (w0 : World) (hA : ao = none → bs.length = 0 ∧ cap = 0) (ha : BAt w0 ao bs) (hm : bs.length ≤ 9223372036854775807) (hkm : ks.length ≤ 9223372036854775807) (hnm : ns.length ≤ 9223372036854775807) (hk : IAt w0 ko ks) (hn : IAt w0 no ns) :
    Calls Try.prog 10 #[.slice ao bs.length cap, .slice ko ks.length kc, .slice no ns.length nc] w0 fun e w' => e = .returned (.bool true) ∧ Below w0.heap.size w0 w' := by
  have HA := Lib.hid hA
  have Ha := Lib.hid ha
  have Hk := Lib.hid hk
  have Hn := Lib.hid hn
  clear hA ha hk hn
  obtain ⟨i0, hi, hz0, hz1, hz2⟩ := info_parts byteInfo
  by_cases h1 : (4000 : Int) < bs.length
  · go_enter Try.func10, Try.ntmps10
    go_wp2_with fail
    go_ret
    exact ⟨rfl, (by repeat (first | with_reducible exact Below.refl _ _ | with_reducible assumption | with_reducible refine Below.drew ?_ | with_reducible refine below_drawn ?_ | with_reducible refine Below.alloc ?_ (by first | omega | (simp; done) | (simp; omega) | (simp at *; omega)) _ | with_reducible refine Below.setCell ?_ (by first | omega | (simp; done) | (simp; omega) | (simp at *; omega)) _ | with_reducible refine Below.trans ?_ (Below.mono (by assumption) (by first | omega | (simp; done) | (simp; omega) | (simp at *; omega)))))⟩
  by_cases h2 : (200 : Int) < ks.length
  · go_enter Try.func10, Try.ntmps10
    go_wp2_with fail
    go_ret
    exact ⟨rfl, (by repeat (first | with_reducible exact Below.refl _ _ | with_reducible assumption | with_reducible refine Below.drew ?_ | with_reducible refine below_drawn ?_ | with_reducible refine Below.alloc ?_ (by first | omega | (simp; done) | (simp; omega) | (simp at *; omega)) _ | with_reducible refine Below.setCell ?_ (by first | omega | (simp; done) | (simp; omega) | (simp at *; omega)) _ | with_reducible refine Below.trans ?_ (Below.mono (by assumption) (by first | omega | (simp; done) | (simp; omega) | (simp at *; omega)))))⟩
  by_cases h3 : ns.length < ks.length
  · go_enter Try.func10, Try.ntmps10
    go_wp2_with fail
    go_ret
    exact ⟨rfl, (by repeat (first | with_reducible exact Below.refl _ _ | with_reducible assumption | with_reducible refine Below.drew ?_ | with_reducible refine below_drawn ?_ | with_reducible refine Below.alloc ?_ (by first | omega | (simp; done) | (simp; omega) | (simp at *; omega)) _ | with_reducible refine Below.setCell ?_ (by first | omega | (simp; done) | (simp; omega) | (simp at *; omega)) _ | with_reducible refine Below.trans ?_ (Below.mono (by assumption) (by first | omega | (simp; done) | (simp; omega) | (simp at *; omega)))))⟩
  have h3' : ¬ (ns.length : Int) < ks.length := by omega
  go_enter Try.func10, Try.ntmps10
  go_wp2_with fail
  refine (roomy_any ao cap bs w0 HA.out Ha.out (by omega)).mono ?_
  rintro e w1 ⟨x, xc, rfl, ho1, hb1⟩
  have S1 := Lib.hid ((St.start w0).own hb1 ho1)
  have hxle := ho1.le
  simp only [List.length_append, List.length_cons, List.length_nil] at hxle
  have hq1 : bs.length ≤ xc := by omega
  have hq2 : (bs.length : Int) ≤ xc := by omega
  have hat := own_short ho1 bs.length (by simp)
  rw [List.take_left] at hat
  have Hat := Lib.hid hat
  clear ho1 hb1 hat
  go_wp2_with fail
  refine (newReader_any (some ⟨x, 0, none⟩) xc bs _ (fun h => by cases h) Hat.out.at (by omega)).mono ?_
  rintro e w2 ⟨p, g, rfl, hr2, hb2, hp2, hg2⟩
  have S2 := Lib.hid (S1.out.newRd hr2 hb2 hp2 hg2)
  have hbs2 := S2.out.b.size
  clear hr2 hb2 hp2 hg2 S1 Hat
  go_wp2_with (at_builtin; go_must (refine wpList_append_any _ rfl (.tmp 40) (.tmp 41) 23 rfl w2.heap.size 5 i0 (.int .u8 0) 1 1 Try.underlying23 hi hz0 hz1 hz2 rfl (by decide) _ 0 [] rfl (owns_emptyAt _ w2.heap.size rfl w2.heap.size (Nat.le_refl _) 5 1) ao bs.length cap (bytV bs) rfl HA.out (by rw [bytV_length, Nat.mul_one]) (Ha.out.below (S2.out.b.alloc hbs2 _)).cells (bytV_one _) (by unfold maxLen; omega) (by omega) (by simp) ?_))
  intro v w3 hown hgrow
  have hb : Below w2.heap.size w2 w3 := below_grown ((Below.refl _ _).alloc (Nat.le_refl _) _) (by simp) hgrow (fun k hk => by simp [Value.ownBlock] at hk; omega)
  obtain ⟨bo, c, hv, ho⟩ := owned_bytes (l := bs) (by simpa using hown) (by simp)
  obtain ⟨g', hr3, hg3⟩ := rr_new ho hb.size
  have S3 := Lib.hid (S2.out.newRR hr3 (hb.alloc hb.size _) hb.size hg3)
  have hs3 := hb.size
  have S4 := Lib.hid (show TS w0 _ p g w3.heap.size g' x xc bs bs false from S3.out.pull (A := [_]))
  clear ho hr3 hb hown hgrow S2 S3 hg3
  rw [hv]
  clear hv
  go_wp2_with fail
  go_loopw [10] (fun s10 wr => ∃ (i : Nat) (rest : List UInt8) (bad : Bool), s10 = .int .i64 i ∧ i ≤ ks.length ∧ rest.length ≤ bs.length ∧ Hid (TS w0 wr p g w3.heap.size g' x xc bs rest bad)) (fun s10 _ => ks.length - (intOf s10).toNat)
  case atStart => exact ⟨0, bs, false, rfl, by omega, by omega, S4⟩
  case round =>
    clear S4 hs3
    obtain ⟨q, hq⟩ : ∃ q, q = w3.heap.size := ⟨_, rfl⟩
    rw [← hq] at hrel ⊢
    clear hq
    obtain ⟨i, rest, bad, rfl, hi1, hr1, S⟩ := hrel
    have hq3 : q < wr.heap.size := ((show St w0 wr _ from S.out).t.lts (thRR q g' rest bad) (by simp) q (.inl rfl)).1
    have hsw := (show St w0 wr _ from S.out).b.size
    by_cases hlt : i < ks.length
    · obtain ⟨kb, kof, rfl, hkb, hkr⟩ := Hk.out (by omega)
      obtain ⟨nb, nof, rfl, hnb, hnr⟩ := Hn.out (by omega)
      have ck := (S.out.b.cell (p := ⟨kb, kof + i, none⟩) hkb).trans (hkr i hlt)
      have cn := (S.out.b.cell (p := ⟨nb, nof + i, none⟩) hnb).trans (hnr i (by omega))
      obtain ⟨kv, hkv⟩ : ∃ kv, kv = ks[i] := ⟨_, rfl⟩
      obtain ⟨nv, hnv⟩ : ∃ nv, nv = ns[i]'(by omega) := ⟨_, rfl⟩
      rw [← hkv] at ck
      rw [← hnv] at cn
      clear hkv hnv hkr hnr
      have hnbw : nb < wr.heap.size := by omega
      have hi0 := Nat.zero_le i
      have hin : i < ns.length := by omega
      have hin1 : (i : Int) < ns.length := by omega
      have hin2 : (0 : Int) ≤ i := by omega
      by_cases k1 : kv = 1
      · subst k1
        have S0 := Lib.hid (show St w0 wr [thRd p g (rdSt rest bad 0).1 (rdSt rest bad 0).2, thRR q g' (rdSt rest bad 0).1 (rdSt rest bad 0).2, thOwn w0.heap.size (some ⟨x, 0, none⟩) xc (bs ++ [171])] from S.out)
        have hle := rdSt_le rest bad 1
        clear S
        go_wp2_with fail
        refine (rdnum_k p g rest bad 0 _ S0.out.head (by omega)).mono ?_
        rintro e y1 ⟨rfl, hr, hk⟩
        have S1 := Lib.hid ((S0.out.read hr hk (by exact hle)).pull (A := [_]))
        clear hr hk S0
        go_wp2_with fail
        refine (rrnum_k q g' rest bad 0 _ S1.out.head (by omega)).mono ?_
        rintro e y2 ⟨rfl, hr, hk⟩
        have S2 := Lib.hid ((S1.out.readR hr hk (by exact hle)).pull (A := [_]))
        clear hr hk S1
        go_wp2_with fail
        (obtain ⟨rr, bb, hrr, Sx⟩ : ∃ rr bb, rr.length ≤ bs.length ∧ Hid (TS w0 y2 p g q g' x xc bs rr bb) := ⟨_, _, Nat.le_trans hle hr1, S2⟩); clear S2; (obtain ⟨ro, rc, e0, e1⟩ := rr_cell0 (St.pull (A := [_]) (show St w0 _ (_ :: _ :: _) from Sx.out)).head); (have Hd := Lib.hid (St.head (show St w0 _ (_ :: _) from Sx.out))); (have Hr := Lib.hid (St.pull (A := [_]) (show St w0 _ (_ :: _ :: _) from Sx.out)).head); (obtain ⟨z, hz⟩ : ∃ z, z = (!bb && rr.isEmpty) := ⟨_, rfl⟩); (have Hz := Lib.hid hz); clear hz; (cases bb); all_goals ((go_quiet (first | (go_at_call 31; exact quiet_left (left_any p g rr _ _ Hd.out)) | (go_at_call 19; exact quiet_left (good_any p g rr _ _ Hd.out)) | (go_at_call 20; exact whole_z p g rr _ z _ _ Hz.out Hd.out (by omega)) | (go_at_call 39; exact rrwhole_z q g' rr _ z _ _ Hz.out Hr.out))); (go_wp2_with fail); go_roundw); all_goals first | exact ⟨i + 1, rr, _, by go_num, by omega, hrr, Lib.hid (St.grow (show St w0 _ _ from Sx.out) (below_drawn (Below.refl _ _)))⟩ | (simp [intOf]; omega)
      by_cases k2 : kv = 2
      · subst k2
        clear k1
        have S0 := Lib.hid (show St w0 wr [thRd p g rest bad, thRR q g' rest bad, thOwn w0.heap.size (some ⟨x, 0, none⟩) xc (bs ++ [171])] from S.out)
        clear S
        go_wp2_with fail
        refine (rdbytes_any p g rest bad _ S0.out.head (by omega)).mono ?_
        rintro e y1 ⟨u, r', b', uo, uc, hu, rfl, ho, hr, hk⟩
        have hle := tookOf_le hu
        have S1 := Lib.hid ((S0.out.readOwn hr hk hle.2 ho).pull (A := [_, _]))
        have Hu := Lib.hid hu
        have hz1 := hk.size
        clear hr hk S0 ho hu
        go_wp2_with fail
        refine (rrbytes_any q g' rest bad _ S1.out.head (by omega)).mono ?_
        rintro e y2 ⟨u2, r2, b2, vo, vc, hu2, rfl, ho, hr, hk⟩
        rw [← Hu.out] at hu2
        simp only [Prod.mk.injEq] at hu2
        obtain ⟨rfl, rfl, rfl⟩ := hu2
        have S2 := Lib.hid ((S1.out.readOwnR hr hk hle.2 ho).pull (A := [_, _]))
        have hz2 := hk.size
        clear hr hk S1 ho
        go_wp2_with fail
        refine (same_yes uo vo uc vc u2 _ S2.out.head.at (S2.out.pull (A := [_])).head.at (by omega)).mono ?_
        rintro e y3 ⟨rfl, hb3⟩
        have S3 := Lib.hid (S2.out.grow hb3)
        have hz3 := hb3.size
        clear hb3 S2
        go_wp2_with fail
        refine (spoil_any uo uc wr.heap.size u2 _ S3.out.head (by omega) (by omega)).mono ?_
        rintro e y4 ⟨rfl, hk⟩
        have S2 := Lib.hid (((S3.out.lose hk).drop).pull (A := [_]))
        clear hk S3
        go_wp2_with fail
        (obtain ⟨rr, bb, hrr, Sx⟩ : ∃ rr bb, rr.length ≤ bs.length ∧ Hid (TS w0 y4 p g q g' x xc bs rr bb) := ⟨_, _, by omega, S2⟩); clear S2; (obtain ⟨ro, rc, e0, e1⟩ := rr_cell0 (St.pull (A := [_]) (show St w0 _ (_ :: _ :: _) from Sx.out)).head); (have Hd := Lib.hid (St.head (show St w0 _ (_ :: _) from Sx.out))); (have Hr := Lib.hid (St.pull (A := [_]) (show St w0 _ (_ :: _ :: _) from Sx.out)).head); (obtain ⟨z, hz⟩ : ∃ z, z = (!bb && rr.isEmpty) := ⟨_, rfl⟩); (have Hz := Lib.hid hz); clear hz; (cases bb); all_goals ((go_quiet (first | (go_at_call 31; exact quiet_left (left_any p g rr _ _ Hd.out)) | (go_at_call 19; exact quiet_left (good_any p g rr _ _ Hd.out)) | (go_at_call 20; exact whole_z p g rr _ z _ _ Hz.out Hd.out (by omega)) | (go_at_call 39; exact rrwhole_z q g' rr _ z _ _ Hz.out Hr.out))); (go_wp2_with fail); go_roundw); all_goals first | exact ⟨i + 1, rr, _, by go_num, by omega, hrr, Lib.hid (St.grow (show St w0 _ _ from Sx.out) (below_drawn (Below.refl _ _)))⟩ | (simp [intOf]; omega)
      by_cases k3 : kv = 3
      · subst k3
        clear k1 k2
        have S0 := Lib.hid (show St w0 wr [thRd p g rest bad, thRR q g' rest bad, thOwn w0.heap.size (some ⟨x, 0, none⟩) xc (bs ++ [171])] from S.out)
        have cW := (S.out.b.cell (p := ⟨nb, nof + i, none⟩) hnb).symm.trans cn
        have H1 := Lib.hid (fun w h => rdraw_t p g rest bad nv w h (by omega))
        have H2 := Lib.hid (fun w h => rrraw_t q g' rest bad nv w h (by omega))
        have hle := rawT_le rest bad nv
        obtain ⟨u, r', b', hu⟩ : ∃ u r' b', rawT rest bad nv = (u, r', b') := ⟨_, _, _, rfl⟩
        rw [hu] at H1 H2 hle
        clear S hu
        simp only at hle
        go_wp2_with fail
        go_region_held3 (fun w' => w'.cell? ⟨nb, nof + i, none⟩ = some (.int .i64 nv)) (go_keep) (first
          | (go_at_call 32; refine (H1.out _ (S0.out.grow (Below.refl _ _).drew).head).mono ?_; rintro e y1 ⟨uo, uc, rfl, ho, hr, hk⟩; have S1 := Lib.hid (((S0.out.grow (Below.refl _ _).drew).readOwn hr hk hle.2 ho).pull (A := [_, _])); have cn1 := (S1.out.b.cell (p := ⟨nb, nof + i, none⟩) hnb).trans cW; have hz1 := hk.size; clear hr hk ho)
          | (go_at_call 37; refine (H2.out _ S1.out.head).mono ?_; rintro e y2 ⟨vo, vc, rfl, ho, hr, hk⟩; have S2 := Lib.hid (S1.out.readOwnR hr hk hle.2 ho); have cn2 := (S2.out.b.cell (p := ⟨nb, nof + i, none⟩) hnb).trans cW; have hz2 := hk.size; clear hr hk ho)
          | (go_at_call 14; refine (same_yes uo vo uc vc u _ (S2.out.pull (A := [_, _])).head.at S2.out.head.at (by omega)).mono ?_; rintro e y3 ⟨rfl, hb3⟩; have S3 := Lib.hid (((((S2.out.grow hb3).drop).pull (A := [_])).drop).pull (A := [_])); have cn3 := (S3.out.b.cell (p := ⟨nb, nof + i, none⟩) hnb).trans cW; have hz3 := hb3.size; clear hb3))
        go_wp2_with fail
        have S2 := S3
        clear S3
        (obtain ⟨rr, bb, hrr, Sx⟩ : ∃ rr bb, rr.length ≤ bs.length ∧ Hid (TS w0 _ p g q g' x xc bs rr bb) := ⟨_, _, by omega, S2⟩); clear S2; (obtain ⟨ro, rc, e0, e1⟩ := rr_cell0 (St.pull (A := [_]) (show St w0 _ (_ :: _ :: _) from Sx.out)).head); (have Hd := Lib.hid (St.head (show St w0 _ (_ :: _) from Sx.out))); (have Hr := Lib.hid (St.pull (A := [_]) (show St w0 _ (_ :: _ :: _) from Sx.out)).head); (obtain ⟨z, hz⟩ : ∃ z, z = (!bb && rr.isEmpty) := ⟨_, rfl⟩); (have Hz := Lib.hid hz); clear hz; (cases bb); all_goals ((go_quiet (first | (go_at_call 31; exact quiet_left (left_any p g rr _ _ Hd.out)) | (go_at_call 19; exact quiet_left (good_any p g rr _ _ Hd.out)) | (go_at_call 20; exact whole_z p g rr _ z _ _ Hz.out Hd.out (by omega)) | (go_at_call 39; exact rrwhole_z q g' rr _ z _ _ Hz.out Hr.out))); (go_wp2_with fail); go_roundw); all_goals first | exact ⟨i + 1, rr, _, by go_num, by omega, hrr, Lib.hid (St.grow (show St w0 _ _ from Sx.out) (below_drawn (Below.refl _ _)))⟩ | (simp [intOf]; omega)
      by_cases k4 : kv = 4
      · subst k4
        clear k1 k2 k3
        have S0 := Lib.hid (show St w0 wr [thRd p g rest bad, thRR q g' rest bad, thOwn w0.heap.size (some ⟨x, 0, none⟩) xc (bs ++ [171])] from S.out)
        clear S
        go_wp2_with fail
        refine (bad_any p g rest bad _ S0.out.head).mono ?_
        rintro e y1 ⟨rfl, hr, hk⟩
        have S1 := Lib.hid ((S0.out.read hr hk (by simp)).pull (A := [_]))
        clear hr hk S0
        go_wp2_with fail
        refine (rrbad_any q g' rest bad _ S1.out.head).mono ?_
        rintro e y2 ⟨rfl, hr, hk⟩
        have S2 := Lib.hid ((S1.out.readR hr hk (by simp)).pull (A := [_]))
        clear hr hk S1
        go_wp2_with fail
        (obtain ⟨rr, bb, hrr, Sx⟩ : ∃ rr bb, rr.length ≤ bs.length ∧ Hid (TS w0 y2 p g q g' x xc bs rr bb) := ⟨_, _, by simp, S2⟩); clear S2; (obtain ⟨ro, rc, e0, e1⟩ := rr_cell0 (St.pull (A := [_]) (show St w0 _ (_ :: _ :: _) from Sx.out)).head); (have Hd := Lib.hid (St.head (show St w0 _ (_ :: _) from Sx.out))); (have Hr := Lib.hid (St.pull (A := [_]) (show St w0 _ (_ :: _ :: _) from Sx.out)).head); (obtain ⟨z, hz⟩ : ∃ z, z = (!bb && rr.isEmpty) := ⟨_, rfl⟩); (have Hz := Lib.hid hz); clear hz; (cases bb); all_goals ((go_quiet (first | (go_at_call 31; exact quiet_left (left_any p g rr _ _ Hd.out)) | (go_at_call 19; exact quiet_left (good_any p g rr _ _ Hd.out)) | (go_at_call 20; exact whole_z p g rr _ z _ _ Hz.out Hd.out (by omega)) | (go_at_call 39; exact rrwhole_z q g' rr _ z _ _ Hz.out Hr.out))); (go_wp2_with fail); go_roundw); all_goals first | exact ⟨i + 1, rr, _, by go_num, by omega, hrr, Lib.hid (St.grow (show St w0 _ _ from Sx.out) (below_drawn (Below.refl _ _)))⟩ | (simp [intOf]; omega)
      have S0 := Lib.hid (show St w0 wr [thRd p g rest bad, thRR q g' rest bad, thOwn w0.heap.size (some ⟨x, 0, none⟩) xc (bs ++ [171])] from S.out)
      have hle3 := rdSt_le rest bad 3
      have hpw : p < wr.heap.size := (S0.out.t.lts (thRd p g rest bad) (by simp) p (.inl rfl)).1
      have hgw : 0 < rest.length → g < wr.heap.size := fun h => (S0.out.t.lts (thRd p g rest bad) (by simp) g (.inr ⟨rfl, h⟩)).1
      have Hgw := Lib.hid hgw
      clear S hgw
      go_wp2_with fail
      refine calls_name fun wa hwa => ?_
      have wab : Below wr.heap.size wr wa := by rw [hwa]; exact (by repeat (first | with_reducible exact Below.refl _ _ | with_reducible assumption | with_reducible refine Below.drew ?_ | with_reducible refine below_drawn ?_ | with_reducible refine Below.alloc ?_ (by first | omega | (simp; done) | (simp; omega) | (simp at *; omega)) _ | with_reducible refine Below.setCell ?_ (by first | omega | (simp; done) | (simp; omega) | (simp at *; omega)) _ | with_reducible refine Below.trans ?_ (Below.mono (by assumption) (by first | omega | (simp; done) | (simp; omega) | (simp at *; omega)))))
      have was : wa.heap.size = wr.heap.size + 3 := by rw [hwa]; simp
      have a0 : wa.cell? ⟨wr.heap.size + 2, 0, none⟩ = some (.pointer (some ⟨wr.heap.size, 0, none⟩)) := by rw [hwa]; go_simp
      have a1 : wa.cell? ⟨wr.heap.size + 2, 1, none⟩ = some (.pointer none) := by rw [hwa]; go_simp
      have a2 : wa.cell? ⟨wr.heap.size + 2, 2, none⟩ = some (.pointer (some ⟨wr.heap.size + 1, 0, none⟩)) := by rw [hwa]; go_simp
      have c0 : wa.cell? ⟨wr.heap.size, 0, none⟩ = some (.int .i64 7) := by rw [hwa]; go_simp
      have c1 : wa.cell? ⟨wr.heap.size + 1, 0, none⟩ = some (.int .i64 7) := by rw [hwa]; go_simp
      have f0 : wa.frozen? ⟨wr.heap.size, 0, none⟩ = false := by rw [hwa]; go_simp
      have f1 : wa.frozen? ⟨wr.heap.size + 1, 0, none⟩ = false := by rw [hwa]; go_simp
      clear hwa
      refine (rdnums_ptrs p g (wr.heap.size + 2) 3 rest bad [some ⟨wr.heap.size, 0, none⟩, none, some ⟨wr.heap.size + 1, 0, none⟩] wa (S0.out.grow wab).head (by omega) (by simp) ?_ (by omega) (by omega) ?_).mono ?_
      · intro i hi
        match i, hi with
        | 0, _ => exact a0
        | 1, _ => exact a1
        | 2, _ => exact a2
      · intro a ha
        simp only [List.mem_cons, Option.some.injEq, List.not_mem_nil, or_false, reduceCtorEq, false_or] at ha
        rcases ha with rfl | rfl
        · exact ⟨by simp only; omega, by simp, fun h => by have := Hgw.out h; simp only; omega, ⟨_, c0⟩, f0⟩
        · exact ⟨by simp only; omega, by simp, fun h => by have := Hgw.out h; simp only; omega, ⟨_, c1⟩, f1⟩
      · rintro e y1 ⟨rfl, hr, hk⟩
        obtain ⟨va, hva⟩ : ∃ va, va = rdVal rest bad 0 := ⟨_, rfl⟩
        obtain ⟨vc, hvc⟩ : ∃ vc, vc = rdVal rest bad 2 := ⟨_, rfl⟩
        have N0 := Lib.hid (rrnum_k q g' rest bad 0)
        have N1 := Lib.hid (rrnum_k q g' rest bad 1)
        have N2 := Lib.hid (rrnum_k q g' rest bad 2)
        rw [← hva] at N0
        rw [← hvc] at N2
        have e0 : y1.cell? ⟨wr.heap.size, 0, none⟩ = some (.int .i64 (va : Nat)) := (hk.cell (p := ⟨wr.heap.size, 0, none⟩) (by rw [setPs_size]; simp only; omega) (by simp only; omega)).trans (by
          rw [hva]; show ((wa.setCell ⟨wr.heap.size, 0, none⟩ (.int .i64 (rdVal rest bad 0 : Nat))).setCell ⟨wr.heap.size + 1, 0, none⟩ (.int .i64 (rdVal rest bad 2 : Nat))).cell? _ = _; go_simp)
        have e1 : y1.cell? ⟨wr.heap.size + 1, 0, none⟩ = some (.int .i64 (vc : Nat)) := (hk.cell (p := ⟨wr.heap.size + 1, 0, none⟩) (by rw [setPs_size]; simp only; omega) (by simp only; omega)).trans (by
          rw [hvc]; show ((wa.setCell ⟨wr.heap.size, 0, none⟩ (.int .i64 (rdVal rest bad 0 : Nat))).setCell ⟨wr.heap.size + 1, 0, none⟩ (.int .i64 (rdVal rest bad 2 : Nat))).cell? _ = _; go_simp)
        have K1 : Keeps wr y1 (fun x => x = p) := (Keeps.trans (U := fun _ => False) (keeps_same0 wab (fun _ => False)) (setPs_keeps wa _ _ _) (fun _ h => h) (fun i hi ⟨a, ha, he⟩ => by
          simp only [List.mem_cons, Option.some.injEq, List.not_mem_nil, or_false, reduceCtorEq, false_or] at ha
          rcases ha with rfl | rfl <;> (simp only at he; omega))).trans hk (fun _ h => h.elim) (fun _ _ h => h)
        have S1 := Lib.hid ((S0.out.read hr K1 (by exact hle3)).pull (A := [_]))
        have hz1 := hk.size
        rw [setPs_size] at hz1
        clear hva hvc hr hk K1 a0 a1 a2 c0 c1 f0 f1 S0 wab
        go_wp2_with fail
        refine (N0.out _ S1.out.head (by omega)).mono ?_
        rintro e y2 ⟨rfl, hr, hk⟩
        have e0' := (hk.cell (p := ⟨wr.heap.size, 0, none⟩) (by simp only; omega) (by simp only; omega)).trans e0
        have e1' := (hk.cell (p := ⟨wr.heap.size + 1, 0, none⟩) (by simp only; omega) (by simp only; omega)).trans e1
        have S2 := Lib.hid (S1.out.readR hr hk (Nat.le_trans (numT_le _ _).1 (by exact Nat.le_refl _)))
        have hz2 := hk.size
        clear hr hk S1 e0 e1
        go_wp2_with fail
        refine (N1.out _ S2.out.head (by omega)).mono ?_
        rintro e y3 ⟨rfl, hr, hk⟩
        have e0 := (hk.cell (p := ⟨wr.heap.size, 0, none⟩) (by simp only; omega) (by simp only; omega)).trans e0'
        have e1 := (hk.cell (p := ⟨wr.heap.size + 1, 0, none⟩) (by simp only; omega) (by simp only; omega)).trans e1'
        have S3 := Lib.hid (S2.out.readR hr hk (Nat.le_trans (numT_le _ _).1 (by exact Nat.le_refl _)))
        have hz3 := hk.size
        clear hr hk S2 e0' e1'
        go_wp2_with fail
        go_region_held3 (fun w' => w'.cell? ⟨wr.heap.size, 0, none⟩ = some (.int .i64 (va : Nat)) ∧ w'.cell? ⟨wr.heap.size + 1, 0, none⟩ = some (.int .i64 (vc : Nat))) (go_keep) ((go_at_call 35; refine (N2.out _ (S3.out.grow (Below.refl _ _).drew).head (by omega)).mono ?_; rintro e y4 ⟨rfl, hr, hk⟩; have e0' := (hk.cell (p := ⟨wr.heap.size, 0, none⟩) (by simp only [World.drew]; omega) (by simp only; omega)).trans e0; have e1' := (hk.cell (p := ⟨wr.heap.size + 1, 0, none⟩) (by simp only [World.drew]; omega) (by simp only; omega)).trans e1; have S4 := Lib.hid (((S3.out.grow (Below.refl _ _).drew).readR hr hk (Nat.le_trans (numT_le _ _).1 (by exact Nat.le_refl _))).pull (A := [_])); clear hr hk S3))
        go_wp2_with fail
        have S2 := S4
        clear S4
        (obtain ⟨rr, bb, hrr, Sx⟩ : ∃ rr bb, rr.length ≤ bs.length ∧ Hid (TS w0 _ p g q g' x xc bs rr bb) := ⟨_, _, Nat.le_trans (rdSt_le rest bad _) hr1, S2⟩); clear S2; (obtain ⟨ro, rc, e0, e1⟩ := rr_cell0 (St.pull (A := [_]) (show St w0 _ (_ :: _ :: _) from Sx.out)).head); (have Hd := Lib.hid (St.head (show St w0 _ (_ :: _) from Sx.out))); (have Hr := Lib.hid (St.pull (A := [_]) (show St w0 _ (_ :: _ :: _) from Sx.out)).head); (obtain ⟨z, hz⟩ : ∃ z, z = (!bb && rr.isEmpty) := ⟨_, rfl⟩); (have Hz := Lib.hid hz); clear hz; (cases bb); all_goals ((go_quiet (first | (go_at_call 31; exact quiet_left (left_any p g rr _ _ Hd.out)) | (go_at_call 19; exact quiet_left (good_any p g rr _ _ Hd.out)) | (go_at_call 20; exact whole_z p g rr _ z _ _ Hz.out Hd.out (by omega)) | (go_at_call 39; exact rrwhole_z q g' rr _ z _ _ Hz.out Hr.out))); (go_wp2_with fail); go_roundw); all_goals first | exact ⟨i + 1, rr, _, by go_num, by omega, hrr, Lib.hid (St.grow (show St w0 _ _ from Sx.out) (below_drawn (Below.refl _ _)))⟩ | (simp [intOf]; omega)
    · obtain rfl : i = ks.length := by omega
      have S0 := Lib.hid (show St w0 wr [thRd p g rest bad, thRR q g' rest bad, thOwn w0.heap.size (some ⟨x, 0, none⟩) xc (bs ++ [171])] from S.out)
      obtain ⟨z, hz⟩ : ∃ z, z = (!bad && rest.isEmpty) := ⟨_, rfl⟩
      have HW1 := Lib.hid (fun w h => whole_any p g rest bad w h (by omega))
      have HW2 := Lib.hid (fun w h => rrwhole_any q g' rest bad w h)
      rw [← hz] at HW1 HW2
      clear S hz
      go_wp2_with fail
      refine (stands_yes x xc ao cap bs _ _ (S0.out.pull (A := [_, _])).head (Ha.out.below S0.out.b) (by omega)).mono ?_
      rintro e y1 ⟨rfl, hb⟩
      have S1 := Lib.hid (S0.out.grow hb)
      clear hb S0
      go_wp2_with fail
      refine (HW1.out _ S1.out.head).mono ?_
      rintro e y2 ⟨rfl, rfl⟩
      go_wp2_with fail
      refine (HW2.out _ (S1.out.pull (A := [_])).head).mono ?_
      rintro e y2 ⟨rfl, rfl⟩
      go_wp2_with fail
      refine (known_any _).mono ?_
      rintro e y3 ⟨rfl, hb⟩
      have Hb := Lib.hid (S1.out.grow hb).b
      clear hb S1
      go_wp2_with fail
      go_ret
      exact ⟨rfl, Hb.out⟩
namespace OctetTakesLift
open Go.ChangeShapes Go.WideShapes Go.ChangeAt Go.RowKit Go.Joins Go.Deep
open Go.ChangeMaps (open_string shut_string)

theorem own : ownKnob Try.prog.godebug = none := by kernel_rfl
theorem laidOut : laidOutB Try.prog = true := by kernel_rfl

set_option maxHeartbeats 1000000 in
set_option maxRecDepth 100000 in
theorem lifted (os : Os) (started : os.Started) (H : Type) (enc : TypeId × Value → H) :
    ReturnsInHanded {} Try.checked os 10 .any (Rows.octetTakesSpec.pre6 enc Try.prog Try.f10 Rows.octetTakesRow.domain false) (Rows.octetTakesSpec.post enc Try.prog Try.f10 false true false false) := by
  refine returnsInHanded_of_change (C := Try.checked) own started (by kernel_rfl) Try.func10
    (ChangeSpec.witness6 (enc := enc) (C := Try.checked) false ⟨#[], #[.slice none 0 0, .slice none 0 0, .slice none 0 0], []⟩ 8 (by kernel_rfl) (by kernel_rfl) (by kernel_rfl) (by kernel_rfl)) ?_
  intro W base args ds gs before hval0 hW hcnd _
  have hval : ∀ (j : Nat) t v, Try.f10.params[j]? = some t → args[j]? = some v → Value.okWide Try.prog W .any base t v := hval0
  have hW' := hW
  obtain ⟨p, q, hA0, hV, rfl, hfz, hnd⟩ := hW
  have hA : DataW.TrodAll enc Try.prog W 0 (fun _ => true) true Try.f10.params.toList args.toList ds p := hA0
  rw [Try.params10] at hA hval
  obtain ⟨v0, vs0, d0, ds0, p0, q0, hargs, rfl, rfl, h0, r0⟩ := trodAll_cons hA
  obtain ⟨v1, vs1, d1, ds1, p1, q1, rfl, rfl, rfl, h1, r1⟩ := trodAll_cons r0
  obtain ⟨v2, vs2, d2, ds2, p2, q2, rfl, rfl, rfl, h2, r2⟩ := trodAll_cons r1
  obtain ⟨rfl, rfl, rfl⟩ := trodAll_nil r2
  obtain rfl : args = #[v0, v1, v2] := by cases args; simp_all
  obtain ⟨rfl, rfl⟩ := trodVars_none hV
  have k0 := h0
  have lt0 : ∀ x ∈ p0, x.block < W.heap.size := by obtain ⟨m, hm⟩ := k0; exact DataW.trod_lt m _ _ _ hm
  have k1 := h1
  have lt1 : ∀ x ∈ p1, x.block < W.heap.size := by obtain ⟨m, hm⟩ := k1; exact DataW.trod_lt m _ _ _ hm
  have k2 := h2
  have lt2 : ∀ x ∈ p2, x.block < W.heap.size := by obtain ⟨m, hm⟩ := k2; exact DataW.trod_lt m _ _ _ hm
  have post : ∀ e W', e = Ending.returned (.bool true) → Below W.heap.size W W' → ∃ v, e = .returned v ∧ Rows.octetTakesSpec.post enc Try.prog Try.f10 false true false false W #[v0, v1, v2] v W' := by
    intro e W' he bel
    subst he
    exact ⟨_, rfl, _, _, _, [], _, [], hW', trodAll_mk1 (shut_bool Try.underlying4 _), (trodAll_cons_mk (Below.trod laidOut (by kernel_rfl) (of_decide_eq_true (by kernel_rfl)) k0 bel lt0) (trodAll_cons_mk (Below.trod laidOut (by kernel_rfl) (of_decide_eq_true (by kernel_rfl)) k1 bel lt1) (trodAll_cons_mk (Below.trod laidOut (by kernel_rfl) (of_decide_eq_true (by kernel_rfl)) k2 bel lt2) trodAll_mk0))), rfl, bel.frame _, fun h => by cases h⟩
  clear hW' hcnd hfz hnd hA0 hA hval0
  obtain ⟨ao, bs, cap, rfl, hAc, hAm, hA, ha⟩ := open_bytes (hval 0 23 v0 rfl rfl) h0
  obtain ⟨ko, ks, kc, rfl, hKc, hKm, hk⟩ := open_intsB (hval 1 30 v1 rfl rfl) h1
  obtain ⟨no, ns, nc, rfl, hNc, hNm, hn⟩ := open_intsB (hval 2 30 v2 rfl rfl) h2
  exact (takes_walk ao ko no cap kc nc bs ks ns W hA ha (by unfold maxLen at hAm; omega) (by unfold maxLen at hKm; omega) (by unfold maxLen at hNm; omega) hk hn).mono fun e W' ⟨he, bel⟩ => post e W' he bel

theorem over : Rows.octetTakesRow.holds Try.pinned (OpenSpec.ofChange Rows.octetTakesSpec) :=
  OpenClaim.holds_of_wide 10 Try.f10 rfl rfl rfl rfl rfl rfl rfl ⟨rfl, rfl, rfl, rfl, rfl⟩ rfl rfl rfl rfl rfl (by kernel_rfl) Try.func10 (by kernel_rfl)
    (of_decide_eq_true (by kernel_rfl)) (by unfold Func.isWrapper; first | (rw [if_pos (by decide +kernel)]; kernel_rfl) | (rw [if_neg (by decide +kernel)]; exact ⟨rfl, rfl⟩))
    (fun os started H enc _ => lifted os started H enc)
end OctetTakesLift

/-- The statement. -/
theorem octetTakes_holds : Rows.OctetTakesSaid := OctetTakesLift.over
#print axioms octetTakes_holds
end Go.Proofs.Ytofkjogjnhnchaa
