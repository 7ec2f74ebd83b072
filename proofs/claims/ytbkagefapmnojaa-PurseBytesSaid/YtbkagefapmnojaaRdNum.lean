/- The contract of the Reader's Num. -/
import Derived.Test.YtbkagefapmnojaaRdRaw
import Derived.Test.YtbkagefapmnojaaTake
namespace Go.Proofs.Ytbkagefapmnojaa
open Go.RowKit

set_option maxRecDepth 8000 in
set_option maxHeartbeats 4000000 in
theorem rdnum_any (p g : Nat) (rest : List UInt8) (bad : Bool) (w : World) (h : RdAt w p g rest bad) (hm : rest.length ≤ 140737488351232) :
    Calls Try.prog 36 #[.pointer (some ⟨p, 0, none⟩)] w fun e w' => (∀ n r, numOf rest = some (n, r) → e = .returned (.int .i64 (n : Nat)) ∧ RdAt w' p g r bad) ∧ (numOf rest = none → e = .returned (.int .i64 0) ∧ RdAt w' p g [] true) ∧ Keeps w w' (fun x => x = p) := by
  have Hbad := Lib.hid (bad_any p g rest bad w h)
  obtain ⟨ao, cap, hh, hlc, hcm, hnone, hgp, hrow⟩ := h
  obtain ⟨c0, c1, f0, f1⟩ := cell_of_two hh
  have Hh := Lib.hid hh
  have Hnone := Lib.hid hnone
  have Hrow := Lib.hid hrow
  clear hh hnone hrow
  go_enter Try.func36, Try.ntmps36
  go_wp2_with fail
  go_loopw [13, 3] (fun s13 s3 wr => wr = w ∧ ∃ k u : Nat, k ≤ rest.length ∧ k ≤ 9 ∧ s13 = .int .i64 k ∧ s3 = .int .u64 u ∧ u < 128 ^ k ∧ Hid (numR k u (rest.drop k) = numOf rest)) (fun s13 _ _ => rest.length - (intOf s13).toNat)
  case atStart => exact ⟨rfl, 0, 0, by omega, by omega, rfl, rfl, by decide, rfl⟩
  case round =>
    obtain ⟨rfl, k, u, hk, hk9, rfl, rfl, hu, hst⟩ := hrel
    by_cases hlt : k < rest.length
    · obtain ⟨off, rfl, hglt, hr⟩ := Hrow.out (by omega)
      have hcv := hr k hlt
      obtain ⟨c, hc⟩ : ∃ c, c = rest[k] := ⟨_, rfl⟩
      have hdrop : rest.drop k = c :: rest.drop (k + 1) := by rw [hc]; exact List.drop_eq_getElem_cons hlt
      rw [← hc] at hcv
      have Hdrop := Lib.hid hdrop
      have Hr := Lib.hid hr
      have Hu := Lib.hid hu
      clear hc hdrop hr hu
      by_cases h9 : (9 : Int) ≤ k
      · have Hno : Hid (numOf rest = none) := by
          have := hst.out
          rw [Hdrop.out] at this
          rw [Hid, ← this]
          simp only [numR]
          rw [if_pos (.inl (by omega))]
        (go_wp2_with fail); (refine Hbad.out.mono ?_); (rintro e w1 ⟨rfl, hr, hk⟩); (go_wp2_with fail); go_ret; exact ⟨fun n r h => (nomatch (Hno.out.symm.trans h)), fun _ => ⟨rfl, hr⟩, hk⟩
      · have hbd := bits_digit k u c (by omega) Hu.out
        by_cases hz : 0 < k ∧ c = 0
        · have Hno : Hid (numOf rest = none) := by
            have := hst.out
            rw [Hdrop.out] at this
            rw [Hid, ← this]
            simp only [numR]
            rw [if_pos (.inr hz)]
          obtain ⟨h0, rfl⟩ := hz
          have hc0 : ((0 : UInt8).toNat : Int) = 0 := rfl
          (go_wp2_with fail); (refine Hbad.out.mono ?_); (rintro e w1 ⟨rfl, hr, hk⟩); (go_wp2_with fail); go_ret; exact ⟨fun n r h => (nomatch (Hno.out.symm.trans h)), fun _ => ⟨rfl, hr⟩, hk⟩
        · have hgo : ¬ (9 ≤ k ∨ (0 < k ∧ c = 0)) := by
            rintro (h | h)
            · omega
            · exact hz h
          have Hgo := Lib.hid hgo
          have hc0 : 0 < k → ¬ (c.toNat : Int) = 0 := fun h e => hz ⟨h, UInt8.toNat_inj.1 (by rw [UInt8.toNat_zero]; omega)⟩
          clear hgo hz
          have hbs : bits BinOp.and IntKind.u8 (c.toNat : Int) 127 = (c.toNat : Int) % 128 := by rw [bits_seven]; omega
          obtain ⟨q, hq⟩ : ∃ q, q = u + c.toNat % 128 * 128 ^ k := ⟨_, rfl⟩
          rw [← hq] at hbd
          have Hq := Lib.hid hq
          clear hq
          have hstep : ¬ c.toNat < 128 → numR (k + 1) q (rest.drop (k + 1)) = numOf rest ∧ q < 128 ^ (k + 1) := fun h => by
            have h1 := hst.out
            rw [Hdrop.out] at h1
            simp only [numR] at h1
            rw [if_neg Hgo.out, if_neg h, ← Hq.out] at h1
            exact ⟨h1, by rw [Hq.out]; exact digit_lt k u _ Hu.out (by omega)⟩
          have hend : c.toNat < 128 → numOf rest = if 4611686018427387904 < q then none else some (q, rest.drop (k + 1)) := fun h => by
            have h1 := hst.out
            rw [Hdrop.out] at h1
            simp only [numR] at h1
            rw [if_neg Hgo.out, if_pos h] at h1
            rw [Hq.out, Nat.mod_eq_of_lt h]
            exact h1.symm
          have Hstep := Lib.hid hstep
          have Hend := Lib.hid hend
          clear hstep hend
          by_cases h0 : (0 : Int) < k
          all_goals (try have hc0 := hc0 (by omega))
          all_goals by_cases hc128 : (c.toNat : Int) < 128
          · by_cases hbig : (4611686018427387904 : Int) < q
            · have Hno : Hid (numOf rest = none) := by rw [Hid, Hend.out (by omega), if_pos (by omega)]
              (go_wp2_with fail); (refine Hbad.out.mono ?_); (rintro e w1 ⟨rfl, hr, hk⟩); (go_wp2_with fail); go_ret; exact ⟨fun n r h => (nomatch (Hno.out.symm.trans h)), fun _ => ⟨rfl, hr⟩, hk⟩
            · (go_wp2_with fail)
              all_goals go_ret
              all_goals have hy : numOf rest = some (q, rest.drop (k + 1)) := by rw [Hend.out (by omega), if_neg (by omega)]
              all_goals refine ⟨fun n r h => ?_, fun h => (nomatch (hy.symm.trans h)), Keeps.set _ _ _⟩
              all_goals (rw [hy] at h; simp only [Option.some.injEq, Prod.mk.injEq] at h; obtain ⟨rfl, rfl⟩ := h; refine ⟨rfl, ?_⟩)
              all_goals exact rd_cut (n := k + 1) Hh.out (by omega) hlc hcm hgp Hrow.out (Below.refl _ _) (by omega) (fun h => (nomatch h)) (fun h => by first | omega | simp [Addr.add])
          · go_wp2_with fail
            go_roundw
            case rel => exact ⟨trivial, k + 1, q, by omega, by omega, by go_num, rfl, (Hstep.out (by omega)).2, (Hstep.out (by omega)).1⟩
            case measure => simp [intOf]; omega
          · by_cases hbig : (4611686018427387904 : Int) < q
            · have Hno : Hid (numOf rest = none) := by rw [Hid, Hend.out (by omega), if_pos (by omega)]
              (go_wp2_with fail); (refine Hbad.out.mono ?_); (rintro e w1 ⟨rfl, hr, hk⟩); (go_wp2_with fail); go_ret; exact ⟨fun n r h => (nomatch (Hno.out.symm.trans h)), fun _ => ⟨rfl, hr⟩, hk⟩
            · (go_wp2_with fail)
              all_goals go_ret
              all_goals have hy : numOf rest = some (q, rest.drop (k + 1)) := by rw [Hend.out (by omega), if_neg (by omega)]
              all_goals refine ⟨fun n r h => ?_, fun h => (nomatch (hy.symm.trans h)), Keeps.set _ _ _⟩
              all_goals (rw [hy] at h; simp only [Option.some.injEq, Prod.mk.injEq] at h; obtain ⟨rfl, rfl⟩ := h; refine ⟨rfl, ?_⟩)
              all_goals exact rd_cut (n := k + 1) Hh.out (by omega) hlc hcm hgp Hrow.out (Below.refl _ _) (by omega) (fun h => (nomatch h)) (fun h => by first | omega | simp [Addr.add])
          · go_wp2_with fail
            go_roundw
            case rel => exact ⟨trivial, k + 1, q, by omega, by omega, by go_num, rfl, (Hstep.out (by omega)).2, (Hstep.out (by omega)).1⟩
            case measure => simp [intOf]; omega
    · have Hno : Hid (numOf rest = none) := by
        have := hst.out
        rw [List.drop_eq_nil_of_le (by omega)] at this
        rw [Hid, ← this]
        rfl
      (go_wp2_with fail); (refine Hbad.out.mono ?_); (rintro e w1 ⟨rfl, hr, hk⟩); (go_wp2_with fail); go_ret; exact ⟨fun n r h => (nomatch (Hno.out.symm.trans h)), fun _ => ⟨rfl, hr⟩, hk⟩
end Go.Proofs.Ytbkagefapmnojaa
