/- The document's Reader.Num. -/
import Derived.Test.YtbkagefapmnojaaRefRd
namespace Go.Proofs.Ytbkagefapmnojaa
open Go.RowKit

theorem rr_cells {w : World} {p g : Nat} {rest : List UInt8} {bad : Bool} (h : RRAt w p g rest bad) : w.cell? ⟨p, 1, none⟩ = some (.bool bad) := by
  obtain ⟨-, ao, cap, hh, -⟩ := h
  exact (cell_of_two hh).2.1
theorem bits_nine (u : Nat) (hu : u < 128 ^ 9) : bits BinOp.or IntKind.u64 (u : Int) 9223372036854775808 = ((u + 9223372036854775808 : Nat) : Int) := by
  have h9 : (128 : Nat) ^ 9 = 9223372036854775808 := by decide
  rw [show (9223372036854775808 : Int) = ((9223372036854775808 : Nat) : Int) from rfl, bits_or_u64_nat _ _ (by omega) (by omega)]
  congr 1
  rw [show (9223372036854775808 : Nat) = 2 ^ 63 * 1 from by decide, Nat.or_comm, ← Nat.two_pow_add_eq_or_of_lt (by omega)]
  omega

set_option maxRecDepth 40000 in
set_option maxHeartbeats 8000000 in
theorem rrnum_any (p g : Nat) (rest : List UInt8) (bad : Bool) (w : World) (h : RRAt w p g rest bad) (hm : rest.length ≤ 140737488351232) :
    Calls Try.prog 38 #[.pointer (some ⟨p, 0, none⟩)] w fun e w' => (∀ n r, numOf rest = some (n, r) → e = .returned (.int .i64 (n : Nat)) ∧ RRAt w' p g r bad) ∧ (numOf rest = none → e = .returned (.int .i64 0) ∧ RRAt w' p g [] true) ∧ Keeps w w' (fun x => x = p) := by
  cases bad with
  | true =>
    obtain rfl : rest = [] := h.1 rfl
    have H := Lib.hid h
    clear h
    go_enter Try.func38, Try.ntmps38
    go_wp2_with fail
    refine wp_loop_rounds 1 ?_
    rw [rounds_succ]
    go_wp2_with fail
    refine (rrraw_no p g [] true 1 w H.out (.inr (by simp))).mono ?_
    rintro e w1 ⟨rfl, hr1, hk1⟩
    have c1 := rr_cells hr1
    have Hr1 := Lib.hid hr1
    clear hr1
    go_wp2_with fail
    go_ret
    exact ⟨fun n r h => (nomatch h), fun _ => ⟨rfl, Hr1.out⟩, hk1⟩
  | false =>
    have H := Lib.hid h
    clear h
    go_enter Try.func38, Try.ntmps38
    go_wp2_with fail
    go_loopw [3, 4] (fun s3 s4 wr => ∃ k u : Nat, k ≤ rest.length ∧ k ≤ 9 ∧ s4 = .int .i64 k ∧ s3 = .int .u64 u ∧ u < 128 ^ k ∧ Hid (numR k u (rest.drop k) = numOf rest) ∧ Hid (RRAt wr p g (rest.drop k) false) ∧ Hid (Keeps w wr (fun x => x = p))) (fun _ s4 _ => 10 - (intOf s4).toNat)
    case atStart => exact ⟨0, 0, by omega, by omega, rfl, rfl, by decide, rfl, H, Keeps.refl _ _⟩
    case round =>
      clear H
      obtain ⟨k, u, hk, hk9, rfl, rfl, hu, hst, HR, HK⟩ := hrel
      have Hu := Lib.hid hu
      clear hu
      by_cases hlt : k < rest.length
      · obtain ⟨c, hc⟩ : ∃ c, c = rest[k] := ⟨_, rfl⟩
        have hdrop : rest.drop k = c :: rest.drop (k + 1) := by rw [hc]; exact List.drop_eq_getElem_cons hlt
        have hlen1 : (rest.drop k).length ≤ 140737488351232 := by rw [List.length_drop]; omega
        have Hdrop := Lib.hid hdrop
        have Hraw := Lib.hid (rrraw_yes p g (rest.drop k) 1 wr HR.out (by rw [List.length_drop]; omega) hlen1)
        clear hc hdrop hlen1
        go_wp2_with fail
        refine Hraw.out.mono ?_
        rintro e w1 ⟨xo, xc, rfl, hox, hr1, hk1⟩
        rw [Hdrop.out] at hox hr1
        simp only [List.take_succ_cons, List.take_zero, List.drop_succ_cons, List.drop_zero] at hox hr1
        obtain ⟨g2, rfl, -, -, hrow⟩ := hox.row (by simp)
        have hx0 : w1.cell? ⟨g2, 0, none⟩ = some (.int .u8 (c.toNat : Int)) := by
          have := hrow 0 (by simp)
          simpa using this
        have c1 := rr_cells hr1
        have HR1 := Lib.hid hr1
        have HK1 := Lib.hid (HK.out.trans hk1 (fun _ h => h) (fun _ _ h => h))
        have hc256 : (c.toNat : Int) < 256 := by have := c.toNat_lt; omega
        clear hox hr1 hrow hk1 Hraw HR HK
        by_cases h9 : k = 9
        · subst h9
          have Hno : Hid (numOf rest = none) := by
            have := hst.out
            rw [Hdrop.out] at this
            rw [Hid, ← this]
            simp only [numR]
            rw [if_pos (.inl (by omega))]
          clear hst
          by_cases h127 : (127 : Int) < c.toNat
          · (go_wp2_with fail); (refine (rrbad_any p g _ false _ HR1.out).mono ?_); (rintro e y9 ⟨rfl, hr9, hk9⟩); (have Hr9 := Lib.hid hr9); (have Hk9 := Lib.hid (HK1.out.trans hk9 (fun _ h => h) (fun _ _ h => h))); (clear hr9 hk9); (go_wp2_with fail); go_ret; exact ⟨fun n r h => (nomatch (Hno.out.symm.trans h)), fun _ => ⟨rfl, Hr9.out⟩, Hk9.out⟩
          · by_cases h1 : (1 : Int) < c.toNat
            · (go_wp2_with fail); (refine (rrbad_any p g _ false _ HR1.out).mono ?_); (rintro e y9 ⟨rfl, hr9, hk9⟩); (have Hr9 := Lib.hid hr9); (have Hk9 := Lib.hid (HK1.out.trans hk9 (fun _ h => h) (fun _ _ h => h))); (clear hr9 hk9); (go_wp2_with fail); go_ret; exact ⟨fun n r h => (nomatch (Hno.out.symm.trans h)), fun _ => ⟨rfl, Hr9.out⟩, Hk9.out⟩
            · by_cases hz : (c.toNat : Int) = 0
              · have hb7 : bits BinOp.and IntKind.u8 0 127 = 0 := by decide
                (go_wp2_with fail); (refine (rrbad_any p g _ false _ HR1.out).mono ?_); (rintro e y9 ⟨rfl, hr9, hk9⟩); (have Hr9 := Lib.hid hr9); (have Hk9 := Lib.hid (HK1.out.trans hk9 (fun _ h => h) (fun _ _ h => h))); (clear hr9 hk9); (go_wp2_with fail); go_ret; exact ⟨fun n r h => (nomatch (Hno.out.symm.trans h)), fun _ => ⟨rfl, Hr9.out⟩, Hk9.out⟩
              · have hone : (c.toNat : Int) = 1 := by omega
                have hb7 : bits BinOp.and IntKind.u8 1 127 = 1 := by decide
                obtain ⟨z, hb9, hz9⟩ : ∃ z : Nat, bits BinOp.or IntKind.u64 (u : Int) 9223372036854775808 = (z : Int) ∧ (4611686018427387904 : Int) < z := ⟨_, bits_nine u Hu.out, by omega⟩
                (go_wp2_with fail); (refine (rrbad_any p g _ false _ HR1.out).mono ?_); (rintro e y9 ⟨rfl, hr9, hk9⟩); (have Hr9 := Lib.hid hr9); (have Hk9 := Lib.hid (HK1.out.trans hk9 (fun _ h => h) (fun _ _ h => h))); (clear hr9 hk9); (go_wp2_with fail); go_ret; exact ⟨fun n r h => (nomatch (Hno.out.symm.trans h)), fun _ => ⟨rfl, Hr9.out⟩, Hk9.out⟩
        · have hk8 : k ≤ 8 := by omega
          have hk9i : ¬ (k : Int) = 9 := by omega
          have hbd := bits_digit k u c (by omega) Hu.out
          have hbs : bits BinOp.and IntKind.u8 (c.toNat : Int) 127 = (c.toNat : Int) % 128 := by rw [bits_seven]; omega
          obtain ⟨q, hq⟩ : ∃ q, q = u + c.toNat % 128 * 128 ^ k := ⟨_, rfl⟩
          rw [← hq] at hbd
          have Hq := Lib.hid hq
          clear hq
          by_cases hz : 0 < k ∧ c = 0
          · have Hno : Hid (numOf rest = none) := by
              have := hst.out
              rw [Hdrop.out] at this
              rw [Hid, ← this]
              simp only [numR]
              rw [if_pos (.inr hz)]
            obtain ⟨h0, hcz⟩ := hz
            have h0i : (0 : Int) < k := by omega
            have hc0 : (c.toNat : Int) = 0 := by rw [hcz]; rfl
            clear hcz
            have hb7 : bits BinOp.and IntKind.u8 0 127 = 0 := by decide
            clear hst hbs hbd
            (go_wp2_with fail); (refine (rrbad_any p g _ false _ HR1.out).mono ?_); (rintro e y9 ⟨rfl, hr9, hk9⟩); (have Hr9 := Lib.hid hr9); (have Hk9 := Lib.hid (HK1.out.trans hk9 (fun _ h => h) (fun _ _ h => h))); (clear hr9 hk9); (go_wp2_with fail); go_ret; exact ⟨fun n r h => (nomatch (Hno.out.symm.trans h)), fun _ => ⟨rfl, Hr9.out⟩, Hk9.out⟩
          · have hgo : ¬ (9 ≤ k ∨ (0 < k ∧ c = 0)) := by
              rintro (h | h)
              · omega
              · exact hz h
            have hstep : ¬ c.toNat < 128 → numR (k + 1) q (rest.drop (k + 1)) = numOf rest ∧ q < 128 ^ (k + 1) := fun h => by
              have h1 := hst.out
              rw [Hdrop.out] at h1
              simp only [numR] at h1
              rw [if_neg hgo, if_neg h, ← Hq.out] at h1
              exact ⟨h1, by rw [Hq.out]; exact digit_lt k u _ Hu.out (by omega)⟩
            have hend : c.toNat < 128 → numOf rest = if 4611686018427387904 < q then none else some (q, rest.drop (k + 1)) := fun h => by
              have h1 := hst.out
              rw [Hdrop.out] at h1
              simp only [numR] at h1
              rw [if_neg hgo, if_pos h] at h1
              rw [Hq.out, Nat.mod_eq_of_lt h]
              exact h1.symm
            have hc0 : 0 < k → ¬ (c.toNat : Int) = 0 := fun h e => hz ⟨h, UInt8.toNat_inj.1 (by rw [UInt8.toNat_zero]; omega)⟩
            have Hstep := Lib.hid hstep
            have Hend := Lib.hid hend
            clear hstep hend hgo hz hst
            by_cases h0 : (0 : Int) < k
            all_goals (try have hc0 := hc0 (by omega))
            all_goals (try have hceq : ((c.toNat : Int) == 0) = false := by rw [beq_eq_false_iff_ne]; exact hc0)
            all_goals by_cases h127 : (127 : Int) < c.toNat
            · go_wp2_with fail
              go_roundw
              case rel => exact ⟨k + 1, q, by omega, by omega, by go_num, rfl, (Hstep.out (by omega)).2, (Hstep.out (by omega)).1, HR1, HK1⟩
              case measure => simp [intOf]; omega
            · by_cases hbig : (4611686018427387904 : Int) < q
              · have Hno : Hid (numOf rest = none) := by rw [Hid, Hend.out (by omega), if_pos (by omega)]
                (go_wp2_with fail); (refine (rrbad_any p g _ false _ HR1.out).mono ?_); (rintro e y9 ⟨rfl, hr9, hk9⟩); (have Hr9 := Lib.hid hr9); (have Hk9 := Lib.hid (HK1.out.trans hk9 (fun _ h => h) (fun _ _ h => h))); (clear hr9 hk9); (go_wp2_with fail); go_ret; exact ⟨fun n r h => (nomatch (Hno.out.symm.trans h)), fun _ => ⟨rfl, Hr9.out⟩, Hk9.out⟩
              · have hy : numOf rest = some (q, rest.drop (k + 1)) := by rw [Hend.out (by omega), if_neg (by omega)]
                have Hy := Lib.hid hy
                clear hy
                (go_wp2_with fail)
                all_goals go_ret
                all_goals refine ⟨fun n r h => ?_, fun h => (nomatch (Hy.out.symm.trans h)), HK1.out⟩
                all_goals (rw [Hy.out] at h; simp only [Option.some.injEq, Prod.mk.injEq] at h; obtain ⟨rfl, rfl⟩ := h; exact ⟨rfl, HR1.out⟩)
            · go_wp2_with fail
              go_roundw
              case rel => exact ⟨k + 1, q, by omega, by omega, by go_num, rfl, (Hstep.out (by omega)).2, (Hstep.out (by omega)).1, HR1, HK1⟩
              case measure => simp [intOf]; omega
            · by_cases hbig : (4611686018427387904 : Int) < q
              · have Hno : Hid (numOf rest = none) := by rw [Hid, Hend.out (by omega), if_pos (by omega)]
                (go_wp2_with fail); (refine (rrbad_any p g _ false _ HR1.out).mono ?_); (rintro e y9 ⟨rfl, hr9, hk9⟩); (have Hr9 := Lib.hid hr9); (have Hk9 := Lib.hid (HK1.out.trans hk9 (fun _ h => h) (fun _ _ h => h))); (clear hr9 hk9); (go_wp2_with fail); go_ret; exact ⟨fun n r h => (nomatch (Hno.out.symm.trans h)), fun _ => ⟨rfl, Hr9.out⟩, Hk9.out⟩
              · have hy : numOf rest = some (q, rest.drop (k + 1)) := by rw [Hend.out (by omega), if_neg (by omega)]
                have Hy := Lib.hid hy
                clear hy
                (go_wp2_with fail)
                all_goals go_ret
                all_goals refine ⟨fun n r h => ?_, fun h => (nomatch (Hy.out.symm.trans h)), HK1.out⟩
                all_goals (rw [Hy.out] at h; simp only [Option.some.injEq, Prod.mk.injEq] at h; obtain ⟨rfl, rfl⟩ := h; exact ⟨rfl, HR1.out⟩)
      · have Hno : Hid (numOf rest = none) := by
          have := hst.out
          rw [List.drop_eq_nil_of_le (by omega)] at this
          rw [Hid, ← this]
          rfl
        have hr := HR.out
        rw [List.drop_eq_nil_of_le (by omega)] at hr
        have Hr := Lib.hid hr
        clear hr HR
        go_wp2_with fail
        refine (rrraw_no p g [] false 1 wr Hr.out (.inr (by simp))).mono ?_
        rintro e w1 ⟨rfl, hr1, hk1⟩
        have c1 := rr_cells hr1
        have Hr1 := Lib.hid hr1
        have Hk1 := Lib.hid (HK.out.trans hk1 (fun _ h => h) (fun _ _ h => h))
        clear hr1 hk1
        go_wp2_with fail
        go_ret
        exact ⟨fun n r h => (nomatch (Hno.out.symm.trans h)), fun _ => ⟨rfl, Hr1.out⟩, Hk1.out⟩
end Go.Proofs.Ytbkagefapmnojaa
