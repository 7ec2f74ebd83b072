/- NetKeeps: without loss, spoiling and doubles what was sent comes, each once, in whatever order. -/
import Derived.Test.YtcboflabjdiadaaKeepsPlain
import Derived.Test.YtcboflabjdiadaaOrderLaw
import Derived.Laws.OwnMore
namespace Go.Proofs.Ytcboflabjdiadaa
open Go.ChangeShapes Go.WideShapes Go.Deep Go.RowKit
open Go.ChangeMaps (open_string shut_string)

theorem boolInfo : (Try.prog.info? 4).map (fun i => (i.zero, i.size, i.bytes)) = some (some (.bool false), 1, 1) := by kernel_rfl
def boolV (l : List Bool) : List Value := l.map .bool
theorem boolV_set (l : List Bool) (i : Nat) (b : Bool) : (boolV l).set i (.bool b) = boolV (l.set i b) := by simp [boolV, List.map_set]
theorem made_bools (n : Nat) : (madeCells (Value.bool false).cells (n * 1)).toList = boolV (List.replicate n false) := by
  apply List.ext_getElem
  · simp [madeCells, boolV]
  · intro i h1 h2
    have e : i % 1 = 0 := Nat.mod_one i
    simp [madeCells, boolV, Value.cells, e]
theorem msAt_k {w : World} {ao : Option Addr} {M : List Ms} (h : MsAt w ao M) (k : Nat) (hk : k < M.length) : ∃ b off, ao = some ⟨b, off, none⟩ ∧ w.cell? ⟨b, off + k * 3, none⟩ = some (.int .i64 M[k].f) ∧ w.cell? ⟨b, off + k * 3 + 1, none⟩ = some (.int .i64 M[k].t) ∧ w.cell? ⟨b, off + k * 3 + 2, none⟩ = some (.slice M[k].ao M[k].bs.length M[k].cap) ∧ BAt w M[k].ao M[k].bs ∧ M[k].bs.length ≤ 140737488351232 := by
  obtain ⟨b, off, e, hb, hr⟩ := h (by omega)
  obtain ⟨h1, h2, h3, h4, h5, h6, h7⟩ := hr k hk
  exact ⟨b, off, e, h1, h2, h3, h5, h6⟩
theorem row_bool {w : World} {base g n : Nat} {O : List Bool} (h : w.ownsRow base 4 1 (.slice (some ⟨g, 0, none⟩) n n) n (boolV O)) (hO : O.length = n) (k : Nat) (hk : k < O.length) : w.cell? ⟨g, k, none⟩ = some (.bool O[k]) ∧ w.frozen? ⟨g, k, none⟩ = false := by
  have h1 := h.cellAt k (by omega)
  have h2 := h.frozenAt k
  simp only [boolV, List.getElem?_map, List.getElem?_eq_getElem hk, Option.map_some] at h1
  exact ⟨by simpa using h1, by simpa using h2⟩
theorem late_cn {W w : World} {p : Nat} {C : List Ct} {R : List Th} (h : NetAt W w p C R) (pick : Int) :
    Calls Try.prog 12 #[.pointer (some ⟨p, 0, none⟩), .int .i64 pick] w fun e w' => ∃ b C', e = .returned (.bool b) ∧ C'.Perm C ∧ NetAt W w' p C' R := by
  by_cases hC : C = []
  · subst hC
    refine (late_none _ pick _ (picked_none_ct h pick)).mono ?_
    rintro e w' ⟨rfl, hb⟩
    exact ⟨false, [], rfl, List.Perm.refl _, h.grow hb⟩
  · have hl : 0 < C.length := List.length_pos_iff.2 hC
    refine (late_ct h pick _ (pickOf_lt hl pick) rfl).mono ?_
    rintro e w' ⟨rfl, hN⟩
    refine ⟨true, _, rfl, ?_, hN⟩
    refine (List.perm_append_comm).trans ?_
    exact (erase_permC (pickOf_lt hl pick)).symm
set_option maxRecDepth 100000 in
set_option maxHeartbeats 4000000 in
theorem keeps_any (lo no po : Option Addr) (lc nc pc : Nat) (L : List Ms) (Nl Pl : List Int) (w : World) (hL : MsAt w lo L) (h0L : lo = none → L.length = 0 ∧ lc = 0) (hlL : L.length * 40 ≤ 140737488351232) (hN : IntsAt w no Nl) (hP : IntsAt w po Pl) (hNl : Nl.length ≤ 9223372036854775807) (hPl : Pl.length ≤ 9223372036854775807) (hsp : ∀ m ∈ L, m.sp = false) :
    Calls Try.prog 3 #[.slice lo L.length lc, .slice no Nl.length nc, .slice po Pl.length pc] w fun e w' => e = .returned (.bool true) ∧ Below w.heap.size w w' := by
  have HA := Lib.hid (acs_new hL h0L hlL _ rfl)
  have HL := Lib.hid hL
  have HN := Lib.hid hN
  have HP := Lib.hid hP
  have Hsp := Lib.hid hsp
  clear hL h0L hN hP hsp
  by_cases hb1 : (200 : Int) < L.length
  · go_enter Try.func3, Try.ntmps3
    go_wp2_with fail
    refine (heavy_any _ 1 _ _ HA.out (by simp)).mono ?_
    rintro e w1 ⟨rfl | rfl, rfl⟩ <;>
    · go_wp2_with fail
      go_ret
      exact ⟨rfl, (by repeat (first | with_reducible exact Below.refl _ _ | with_reducible assumption | with_reducible refine Below.drew ?_ | with_reducible refine below_drawn ?_ | with_reducible refine Below.alloc ?_ (by first | omega | (simp; done) | (simp; omega) | (simp at *; omega)) _ | with_reducible refine Below.setCell ?_ (by first | omega | (simp; done) | (simp; omega) | (simp at *; omega)) _ | with_reducible refine Below.trans ?_ (Below.mono (by assumption) (by first | omega | (simp; done) | (simp; omega) | (simp at *; omega)))))⟩
  by_cases hb2 : (200 : Int) < Nl.length
  · go_enter Try.func3, Try.ntmps3
    go_wp2_with fail
    refine (heavy_any _ 1 _ _ HA.out (by simp)).mono ?_
    rintro e w1 ⟨rfl | rfl, rfl⟩ <;>
    · go_wp2_with fail
      go_ret
      exact ⟨rfl, (by repeat (first | with_reducible exact Below.refl _ _ | with_reducible assumption | with_reducible refine Below.drew ?_ | with_reducible refine below_drawn ?_ | with_reducible refine Below.alloc ?_ (by first | omega | (simp; done) | (simp; omega) | (simp at *; omega)) _ | with_reducible refine Below.setCell ?_ (by first | omega | (simp; done) | (simp; omega) | (simp at *; omega)) _ | with_reducible refine Below.trans ?_ (Below.mono (by assumption) (by first | omega | (simp; done) | (simp; omega) | (simp at *; omega)))))⟩
  have d1 : decide ((200 : Int) < L.length) = false := by rw [decide_eq_false_iff_not]; exact hb1
  have d2 : decide ((200 : Int) < Nl.length) = false := by rw [decide_eq_false_iff_not]; exact hb2
  have hb1' : L.length ≤ 200 := by omega
  obtain ⟨i0, hi0, hz0, hz1, hz2⟩ := info_parts boolInfo
  clear hb1 hb2
  go_enter Try.func3, Try.ntmps3
  go_wp2_with fail
  refine (heavy_any _ 1 _ _ HA.out (by simp)).mono ?_
  rintro e w1 ⟨rfl | rfl, rfl⟩
  · go_wp2_with fail
    go_ret
    exact ⟨rfl, (by repeat (first | with_reducible exact Below.refl _ _ | with_reducible assumption | with_reducible refine Below.drew ?_ | with_reducible refine below_drawn ?_ | with_reducible refine Below.alloc ?_ (by first | omega | (simp; done) | (simp; omega) | (simp at *; omega)) _ | with_reducible refine Below.setCell ?_ (by first | omega | (simp; done) | (simp; omega) | (simp at *; omega)) _ | with_reducible refine Below.trans ?_ (Below.mono (by assumption) (by first | omega | (simp; done) | (simp; omega) | (simp at *; omega)))))⟩
  have hb0 : Below w.heap.size w (w.alloc (.cells #[.int .i64 0, .int .i64 0, .int .i64 0, .int .u8 0, .slice lo L.length lc] 26)) := (by repeat (first | with_reducible exact Below.refl _ _ | with_reducible assumption | with_reducible refine Below.drew ?_ | with_reducible refine below_drawn ?_ | with_reducible refine Below.alloc ?_ (by first | omega | (simp; done) | (simp; omega) | (simp at *; omega)) _ | with_reducible refine Below.setCell ?_ (by first | omega | (simp; done) | (simp; omega) | (simp at *; omega)) _ | with_reducible refine Below.trans ?_ (Below.mono (by assumption) (by first | omega | (simp; done) | (simp; omega) | (simp at *; omega)))))
  generalize hw0 : (w.alloc (.cells #[.int .i64 0, .int .i64 0, .int .i64 0, .int .u8 0, .slice lo L.length lc] 26)) = w0 at hb0 ⊢
  have HB0 := Lib.hid hb0
  clear hb0 hw0 HA
  have hLn : L.length = fits 0 L.length := by unfold fits; omega
  have HLn := Lib.hid hLn
  clear hLn
  go_wp2_with fail
  refine (new_any w0).mono ?_
  rintro e w1 ⟨rfl, hw1⟩
  have HN1 : Hid (NetAt w w1 w0.heap.size [] []) := by rw [hw1]; exact NetAt.newIn ⟨HB0.out, trivial⟩
  clear hw1
  go_wp2_with fail
  refine (send_ct HN1.out lo lc L (fun w' X hS => HL.out.grow hS.b) (by omega) L.length rfl L.length HLn.out).mono ?_
  rintro e w2 ⟨rfl, hN⟩
  have HN2 : Hid (NetAt w w2 w0.heap.size (L.map ct) []) := by rw [List.take_length] at hN; exact hN
  clear hN HN1
  go_wp2_with fail
  go_loopw [8] (fun s8 wr => ∃ (i : Nat) (C : List Ct), s8 = .int .i64 i ∧ i ≤ Nl.length ∧ Hid (C.Perm (L.map ct)) ∧ Hid (NetAt w wr w0.heap.size C [])) (fun s8 _ => Nl.length - (intOf s8).toNat)
  case atStart => exact ⟨0, _, rfl, by omega, Lib.hid (List.Perm.refl _), HN2⟩
  case round =>
    obtain ⟨i, C, rfl, hi, HC, HNt⟩ := hrel
    clear HN2
    by_cases hlt : i < Nl.length
    · obtain ⟨b, off, rfl, hb, hr⟩ := (HN.out.grow HNt.out.b) (by omega)
      have c0 := hr i hlt
      obtain ⟨y, hy⟩ : ∃ y, y = Nl[i] := ⟨_, rfl⟩
      rw [← hy] at c0
      clear hy hr
      go_wp2_with fail
      refine (late_cn HNt.out y).mono ?_
      rintro e w3 ⟨bb, C', rfl, hC', hN⟩
      have HN3 := Lib.hid hN
      have HC3 := Lib.hid (hC'.trans HC.out)
      clear hN hC'
      go_wp2_with fail
      go_roundw
      case rel => exact ⟨i + 1, C', by go_num, by omega, HC3, HN3⟩
      case measure => simp [intOf]; omega
    · obtain rfl : i = Nl.length := by omega
      obtain ⟨wm, hmk, hmo, hmg⟩ := run_makeSlice_full (P := Try.prog) wr wr.heap.size 32 4 i0 (.bool false) 1 Try.underlying32 hi0 hz0 hz1 .i64 .i64 L.length (by omega) (by rw [hz2]; omega) (by unfold maxLen; omega) (Nat.le_refl _)
      rw [made_bools] at hmo
      have HMO := Lib.hid hmo
      have HMG := Lib.hid hmg
      clear hmo hmg
      obtain ⟨g, hg⟩ : ∃ g, g = wr.heap.size := ⟨_, rfl⟩
      obtain ⟨Lc, hLc⟩ : ∃ Lc, Lc = L.map ct := ⟨_, rfl⟩
      have hLcl : Lc.length = L.length := by rw [hLc, List.length_map]
      have hLcs : ∀ c ∈ Lc, c.2.2.2 = false := by
        intro c hc
        rw [hLc] at hc
        obtain ⟨m, hm, rfl⟩ := List.mem_map.1 hc
        exact Hsp.out m hm
      have hLce : ∀ k, (hk : k < L.length) → (hk2 : k < Lc.length) → Lc[k] = ct L[k] := fun k hk hk2 => by simp only [hLc, List.getElem_map]
      have HNm : Hid (NetAt w wm w0.heap.size C [thRow wr.heap.size 4 1 (some ⟨g, 0, none⟩) L.length L.length (boolV (List.replicate L.length false))]) := by
        refine HNt.out.thing (below_grown (Below.refl wr.heap.size wr) (Nat.le_refl _) HMG.out (fun k hk => by cases hk)) _ (by rw [hg]; exact HMO.out) ?_
        intro x ⟨a, ha, hx⟩
        cases ha
        rw [← hx, hg]
        exact Nat.le_refl _
      have HCp : Hid (C.Perm (left (List.replicate L.length false) Lc)) := by rw [← hLcl, left_all, hLc]; exact HC
      have HCl : Hid (C.length + 0 = L.length) := by have := HC.out.length_eq; rw [List.length_map] at this; exact this
      rw [← hg] at hmk
      have HLcl := Lib.hid hLcl
      have HLcs := Lib.hid hLcs
      have HLce := Lib.hid hLce
      obtain ⟨base, hbase⟩ : ∃ b, b = wr.heap.size := ⟨_, rfl⟩
      rw [← hbase] at HNm
      clear HMO HMG HC HNt hg hLc hLcl hLcs hLce hbase
      go_wp2_with fail
      go_loopw [10, 11, 12, 13, 14, 15] (fun s10 _ _ _ _ _ wx => ∃ (i : Nat) (C : List Ct) (O : List Bool), s10 = .int .i64 i ∧ i ≤ L.length ∧ Hid (C.length + i = L.length) ∧ Hid (O.length = L.length) ∧ Hid (C.Perm (left O Lc)) ∧ Hid (NetAt w wx w0.heap.size C [thRow base 4 1 (some ⟨g, 0, none⟩) L.length L.length (boolV O)])) (fun s10 _ _ _ _ _ _ => L.length - (intOf s10).toNat)
      case atStart => exact ⟨0, C, _, rfl, by omega, HCl, by simp [Hid], HCp, HNm⟩
      case round =>
        clear HNm HCp HCl hmk
        obtain ⟨i, C, O, rfl, hiL, HCl, HO, HCp, HNt⟩ := hrel
        by_cases hlt : i < L.length
        · by_cases hpk : i < Pl.length
          · obtain ⟨b, off, rfl, hb, hr⟩ := (HP.out.grow HNt.out.b) (by omega)
            have c0 := hr i hpk
            obtain ⟨y, hy⟩ : ∃ y, y = Pl[i] := ⟨_, rfl⟩
            rw [← hy] at c0
            clear hy hr
            obtain ⟨j, hj⟩ : ∃ j, j = pickOf C.length y := ⟨_, rfl⟩
            have hjl : j < C.length := hj ▸ pickOf_lt (by have := HCl.out; omega) y
            obtain ⟨f, t, bs, sp, hc⟩ : ∃ f t bs sp, C[j] = (f, t, bs, sp) := ⟨_, _, _, _, rfl⟩
            have hgv := give_ct HNt.out y j hjl hj
            rw [hc] at hgv
            have Hgv := Lib.hid hgv
            have Hfd := Lib.hid (found HCp.out hjl)
            have Hnx := Lib.hid (fun k => next_left (k := k) HCp.out HLcs.out hjl)
            rw [hc] at Hfd Hnx
            have Hel : Hid ((C.eraseIdx j).length + (i + 1) = L.length) := by
              have := HCl.out
              unfold Hid
              rw [List.length_eraseIdx]; simp only [hjl, if_true]; omega
            obtain ⟨C', hC'⟩ : ∃ C', C' = C.eraseIdx j := ⟨_, rfl⟩
            rw [← hC'] at Hgv Hnx Hel
            clear hgv hc hj hjl HCp HNt HCl hC'
            go_wp2_with fail
            refine Hgv.out.mono ?_
            rintro e w6 ⟨xo, xc, rfl, hxl, hN⟩
            simp only at hxl hN
            have HN6 := Lib.hid (hN.objN (.cells #[.int .i64 f, .int .i64 t, .slice xo bs.length xc] 35) _ rfl)
            obtain ⟨g6, hg6⟩ : ∃ g6, g6 = w6.heap.size := ⟨_, rfl⟩
            clear hN Hgv
            simp only
            go_wp2_with fail
            have HN7 : Hid (NetAt w (w6.alloc (.cells #[.int .i64 f, .int .i64 t, .slice xo bs.length xc] 35)) w0.heap.size C' [thObj g6 (.cells #[.int .i64 f, .int .i64 t, .slice xo bs.length xc] 35 (0, 0)), thOwn w.heap.size xo xc bs, thRow base 4 1 (some ⟨g, 0, none⟩) L.length L.length (boolV O)]) := by rw [hg6]; exact HN6
            rw [← hg6]
            clear HN6 hg6
            go_loopw [14, 15] (fun s14 s15 wx => ∃ k : Nat, s15 = .int .i64 k ∧ k ≤ L.length ∧ ((s14 = .int .i64 (-1) ∧ Hid (∀ q, q < k → ¬ fitsAt O Lc (f, t, bs, sp) q)) ∨ ∃ a : Nat, s14 = .int .i64 a ∧ a < L.length ∧ Hid (fitsAt O Lc (f, t, bs, sp) a)) ∧ Hid (NetAt w wx w0.heap.size C' [thObj g6 (.cells #[.int .i64 f, .int .i64 t, .slice xo bs.length xc] 35 (0, 0)), thOwn w.heap.size xo xc bs, thRow base 4 1 (some ⟨g, 0, none⟩) L.length L.length (boolV O)])) (fun _ s15 _ => L.length - (intOf s15).toNat)
            case atStart => exact ⟨0, rfl, by omega, .inl ⟨rfl, fun q hq => absurd hq (Nat.not_lt_zero _)⟩, HN7⟩
            case round =>
              clear HN7
              obtain ⟨k, rfl, hkL, hat, HN⟩ := hrel
              by_cases hkl : k < L.length
              · rcases hat with ⟨rfl, Hno⟩ | ⟨a, rfl, haL, Ha⟩
                · have hrow := HN.out.mem (t := thRow base 4 1 (some ⟨g, 0, none⟩) L.length L.length (boolV O)) (by simp)
                  obtain ⟨o0, -⟩ := row_bool hrow HO.out k (by rw [HO.out]; exact hkl)
                  obtain ⟨ok, hok⟩ : ∃ ok, ok = O[k]'(by rw [HO.out]; exact hkl) := ⟨_, rfl⟩
                  rw [← hok] at o0
                  have Hok := Lib.hid hok
                  clear hrow hok
                  cases ok with
                  | true =>
                    go_wp2_with fail
                    refine wp_name fun wa hwa => ?_
                    rw [← hwa] at HN o0
                    have hgs : g < wa.heap.size := lt_of_cellN o0
                    clear hwa
                    (refine wp_region_gr (by kernel_rfl) (by kernel_rfl) ?_; (repeat (go_big_quiet_step (fail))); refine wpQuiet_nil ?_; intro _ hw'; obtain ⟨g', hw''⟩ := hw'; subst hw'')
                    have HN8 := Lib.hid (HN.out.grow (gr_below wa g'))
                    go_wp2_with fail
                    go_roundw
                    case rel => exact ⟨k + 1, by go_num, by omega, .inl ⟨rfl, fun q hq => by
                      by_cases e : q = k
                      · subst e
                        rintro ⟨h1, h2, h3, h4⟩
                        rw [← Hok.out] at h3; cases h3
                      · exact Hno.out q (by omega)⟩, HN8⟩
                    case measure => simp [intOf]; omega
                  | false =>
                    obtain ⟨b, off, rfl, l0, l1, l2, lb, ll⟩ := msAt_k (HL.out.grow HN.out.b) k hkl
                    have hce := HLce.out k hkl (by rw [HLcl.out]; exact hkl)
                    obtain ⟨f', t', lo', lc', lbs, lsp, hq⟩ : ∃ f t ao cap bs sp, (⟨f, t, ao, cap, bs, sp⟩ : Ms) = L[k] := ⟨_, _, _, _, _, _, rfl⟩
                    rw [← hq] at l0 l1 l2 lb ll hce
                    simp only at l0 l1 l2 lb ll
                    obtain ⟨eb, heb⟩ : ∃ eb, eb = eqC (Lc[k]'(by rw [HLcl.out]; exact hkl)) (f, t, bs, sp) := ⟨_, rfl⟩
                    have heb2 : eb = (f' == f && t' == t && lbs == bs) := by rw [heb, hce]; rfl
                    have Heb := Lib.hid heb
                    have Heb2 := Lib.hid heb2
                    have Hlb := Lib.hid lb
                    clear hce hq heb heb2 lb
                    go_wp2_with fail
                    refine wp_name fun wa hwa => ?_
                    rw [← hwa] at HN o0 l0 l1 l2 Hlb
                    have hgs : g < wa.heap.size := lt_of_cellN o0
                    have hbs : b < wa.heap.size := lt_of_cellN l0
                    have q0 := HN.out.cells (b := g6) (cur := #[.int .i64 f, .int .i64 t, .slice xo bs.length xc]) (t := 35) (by simp) 0 _ rfl
                    have q1 := HN.out.cells (b := g6) (cur := #[.int .i64 f, .int .i64 t, .slice xo bs.length xc]) (t := 35) (by simp) 1 _ rfl
                    have q2 := HN.out.cells (b := g6) (cur := #[.int .i64 f, .int .i64 t, .slice xo bs.length xc]) (t := 35) (by simp) 2 _ rfl
                    have hg6s : g6 < wa.heap.size := lt_of_cellN q0
                    have hmg := Lib.hid (fun g' : Gr wa => message_any f' t' lo' lc' lbs f t xo xc bs (gr wa g') (Hlb.out.below (gr_below wa g')) ((HN.out.bat (base := w.heap.size) (cap := xc) (by simp)).below (gr_below wa g')) (by omega) (by omega) eb Heb2.out)
                    clear hwa
                    (refine wp_region_gr (by kernel_rfl) (by kernel_rfl) ?_; (repeat (go_big_quiet_step (first | (go_at_call 14; exact calls_gr (hmg.out _)) | fail))); refine wpQuiet_nil ?_; intro _ hw'; obtain ⟨g', hw''⟩ := hw'; subst hw'')
                    have HN8 := Lib.hid (HN.out.grow (gr_below wa g'))
                    clear hmg q0 q1 q2 l0 l1 l2 HN
                    cases eb with
                    | true =>
                      go_wp2_with fail
                      go_roundw
                      case rel => exact ⟨k + 1, by go_num, by omega, .inr ⟨k, rfl, hkl, by rw [HO.out]; exact hkl, by rw [HLcl.out]; exact hkl, Hok.out.symm, Heb.out.symm⟩, HN8⟩
                      case measure => simp [intOf]; omega
                    | false =>
                      go_wp2_with fail
                      go_roundw
                      case rel => exact ⟨k + 1, by go_num, by omega, .inl ⟨rfl, fun q hq => by
                        by_cases e : q = k
                        · subst e
                          rintro ⟨h1, h2, h3, h4⟩
                          rw [← Heb.out] at h4; cases h4
                        · exact Hno.out q (by omega)⟩, HN8⟩
                      case measure => simp [intOf]; omega
                · have hneg : decide ((a : Int) < 0) = false := by rw [decide_eq_false_iff_not]; omega
                  go_wp2_with fail
                  refine wp_name fun wa hwa => ?_
                  rw [← hwa] at HN
                  clear hwa
                  (refine wp_region_gr (by kernel_rfl) (by kernel_rfl) ?_; (repeat (go_big_quiet_step (fail))); refine wpQuiet_nil ?_; intro _ hw'; obtain ⟨g', hw''⟩ := hw'; subst hw'')
                  have HN8 := Lib.hid (HN.out.grow (gr_below wa g'))
                  clear HN
                  go_wp2_with fail
                  go_roundw
                  case rel => exact ⟨k + 1, by go_num, by omega, .inr ⟨a, rfl, haL, Ha⟩, HN8⟩
                  case measure => simp [intOf]; omega
              · obtain rfl : k = L.length := by omega
                rcases hat with ⟨rfl, Hno⟩ | ⟨a, rfl, haL, Ha⟩
                · exfalso
                  obtain ⟨q, h⟩ := Hfd.out
                  have h' := h
                  obtain ⟨h1, -⟩ := h'
                  rw [HO.out] at h1
                  exact Hno.out q h1 h
                · have hneg : decide ((a : Int) < 0) = false := by rw [decide_eq_false_iff_not]; omega
                  have HNd := Lib.hid (HN.out.drop.drop)
                  have hrow := HNd.out.mem (t := thRow base 4 1 (some ⟨g, 0, none⟩) L.length L.length (boolV O)) (by simp)
                  obtain ⟨o0, o1⟩ := row_bool hrow HO.out a (by rw [HO.out]; exact haL)
                  have hst := (World.ownsRow.stored (show World.ownsRow _ base 4 1 (.slice (some ⟨g, 0, none⟩) L.length L.length) L.length (boolV O) from hrow) a (.bool true)).1
                  rw [boolV_set] at hst
                  have HNs := Lib.hid (HNd.out.stepR ((Keeps.set _ ⟨g, a, none⟩ (.bool true)).weak (T := fun z => ∃ d : Addr, some (⟨g, 0, none⟩ : Addr) = some d ∧ d.block = z) (fun _ _ e => ⟨_, rfl, e.symm⟩)) (thRow base 4 1 (some ⟨g, 0, none⟩) L.length L.length (boolV (O.set a true))) hst (fun x hx => .inl hx))
                  clear hrow hst HN HNd
                  go_wp2_with fail
                  go_roundw
                  case rel => exact ⟨i + 1, C', O.set a true, by go_num, by omega, Hel, by rw [List.length_set]; exact HO, Lib.hid (Hnx.out a Ha.out), HNs⟩
                  case measure => simp [intOf]; omega
          · obtain ⟨y, hy⟩ : ∃ y : Int, y = 0 := ⟨_, rfl⟩
            obtain ⟨j, hj⟩ : ∃ j, j = pickOf C.length y := ⟨_, rfl⟩
            have hjl : j < C.length := hj ▸ pickOf_lt (by have := HCl.out; omega) y
            obtain ⟨f, t, bs, sp, hc⟩ : ∃ f t bs sp, C[j] = (f, t, bs, sp) := ⟨_, _, _, _, rfl⟩
            have hgv := give_ct HNt.out y j hjl hj
            rw [hc] at hgv
            rw [hy] at hgv
            have Hgv := Lib.hid hgv
            have Hfd := Lib.hid (found HCp.out hjl)
            have Hnx := Lib.hid (fun k => next_left (k := k) HCp.out HLcs.out hjl)
            rw [hc] at Hfd Hnx
            have Hel : Hid ((C.eraseIdx j).length + (i + 1) = L.length) := by
              have := HCl.out
              unfold Hid
              rw [List.length_eraseIdx]; simp only [hjl, if_true]; omega
            obtain ⟨C', hC'⟩ : ∃ C', C' = C.eraseIdx j := ⟨_, rfl⟩
            rw [← hC'] at Hgv Hnx Hel
            clear hgv hc hj hjl HCp HNt HCl hC'
            go_wp2_with fail
            refine Hgv.out.mono ?_
            rintro e w6 ⟨xo, xc, rfl, hxl, hN⟩
            simp only at hxl hN
            have HN6 := Lib.hid (hN.objN (.cells #[.int .i64 f, .int .i64 t, .slice xo bs.length xc] 35) _ rfl)
            obtain ⟨g6, hg6⟩ : ∃ g6, g6 = w6.heap.size := ⟨_, rfl⟩
            clear hN Hgv
            simp only
            go_wp2_with fail
            have HN7 : Hid (NetAt w (w6.alloc (.cells #[.int .i64 f, .int .i64 t, .slice xo bs.length xc] 35)) w0.heap.size C' [thObj g6 (.cells #[.int .i64 f, .int .i64 t, .slice xo bs.length xc] 35 (0, 0)), thOwn w.heap.size xo xc bs, thRow base 4 1 (some ⟨g, 0, none⟩) L.length L.length (boolV O)]) := by rw [hg6]; exact HN6
            rw [← hg6]
            clear HN6 hg6
            go_loopw [14, 15] (fun s14 s15 wx => ∃ k : Nat, s15 = .int .i64 k ∧ k ≤ L.length ∧ ((s14 = .int .i64 (-1) ∧ Hid (∀ q, q < k → ¬ fitsAt O Lc (f, t, bs, sp) q)) ∨ ∃ a : Nat, s14 = .int .i64 a ∧ a < L.length ∧ Hid (fitsAt O Lc (f, t, bs, sp) a)) ∧ Hid (NetAt w wx w0.heap.size C' [thObj g6 (.cells #[.int .i64 f, .int .i64 t, .slice xo bs.length xc] 35 (0, 0)), thOwn w.heap.size xo xc bs, thRow base 4 1 (some ⟨g, 0, none⟩) L.length L.length (boolV O)])) (fun _ s15 _ => L.length - (intOf s15).toNat)
            case atStart => exact ⟨0, rfl, by omega, .inl ⟨rfl, fun q hq => absurd hq (Nat.not_lt_zero _)⟩, HN7⟩
            case round =>
              clear HN7
              obtain ⟨k, rfl, hkL, hat, HN⟩ := hrel
              by_cases hkl : k < L.length
              · rcases hat with ⟨rfl, Hno⟩ | ⟨a, rfl, haL, Ha⟩
                · have hrow := HN.out.mem (t := thRow base 4 1 (some ⟨g, 0, none⟩) L.length L.length (boolV O)) (by simp)
                  obtain ⟨o0, -⟩ := row_bool hrow HO.out k (by rw [HO.out]; exact hkl)
                  obtain ⟨ok, hok⟩ : ∃ ok, ok = O[k]'(by rw [HO.out]; exact hkl) := ⟨_, rfl⟩
                  rw [← hok] at o0
                  have Hok := Lib.hid hok
                  clear hrow hok
                  cases ok with
                  | true =>
                    go_wp2_with fail
                    refine wp_name fun wa hwa => ?_
                    rw [← hwa] at HN o0
                    have hgs : g < wa.heap.size := lt_of_cellN o0
                    clear hwa
                    (refine wp_region_gr (by kernel_rfl) (by kernel_rfl) ?_; (repeat (go_big_quiet_step (fail))); refine wpQuiet_nil ?_; intro _ hw'; obtain ⟨g', hw''⟩ := hw'; subst hw'')
                    have HN8 := Lib.hid (HN.out.grow (gr_below wa g'))
                    go_wp2_with fail
                    go_roundw
                    case rel => exact ⟨k + 1, by go_num, by omega, .inl ⟨rfl, fun q hq => by
                      by_cases e : q = k
                      · subst e
                        rintro ⟨h1, h2, h3, h4⟩
                        rw [← Hok.out] at h3; cases h3
                      · exact Hno.out q (by omega)⟩, HN8⟩
                    case measure => simp [intOf]; omega
                  | false =>
                    obtain ⟨b, off, rfl, l0, l1, l2, lb, ll⟩ := msAt_k (HL.out.grow HN.out.b) k hkl
                    have hce := HLce.out k hkl (by rw [HLcl.out]; exact hkl)
                    obtain ⟨f', t', lo', lc', lbs, lsp, hq⟩ : ∃ f t ao cap bs sp, (⟨f, t, ao, cap, bs, sp⟩ : Ms) = L[k] := ⟨_, _, _, _, _, _, rfl⟩
                    rw [← hq] at l0 l1 l2 lb ll hce
                    simp only at l0 l1 l2 lb ll
                    obtain ⟨eb, heb⟩ : ∃ eb, eb = eqC (Lc[k]'(by rw [HLcl.out]; exact hkl)) (f, t, bs, sp) := ⟨_, rfl⟩
                    have heb2 : eb = (f' == f && t' == t && lbs == bs) := by rw [heb, hce]; rfl
                    have Heb := Lib.hid heb
                    have Heb2 := Lib.hid heb2
                    have Hlb := Lib.hid lb
                    clear hce hq heb heb2 lb
                    go_wp2_with fail
                    refine wp_name fun wa hwa => ?_
                    rw [← hwa] at HN o0 l0 l1 l2 Hlb
                    have hgs : g < wa.heap.size := lt_of_cellN o0
                    have hbs : b < wa.heap.size := lt_of_cellN l0
                    have q0 := HN.out.cells (b := g6) (cur := #[.int .i64 f, .int .i64 t, .slice xo bs.length xc]) (t := 35) (by simp) 0 _ rfl
                    have q1 := HN.out.cells (b := g6) (cur := #[.int .i64 f, .int .i64 t, .slice xo bs.length xc]) (t := 35) (by simp) 1 _ rfl
                    have q2 := HN.out.cells (b := g6) (cur := #[.int .i64 f, .int .i64 t, .slice xo bs.length xc]) (t := 35) (by simp) 2 _ rfl
                    have hg6s : g6 < wa.heap.size := lt_of_cellN q0
                    have hmg := Lib.hid (fun g' : Gr wa => message_any f' t' lo' lc' lbs f t xo xc bs (gr wa g') (Hlb.out.below (gr_below wa g')) ((HN.out.bat (base := w.heap.size) (cap := xc) (by simp)).below (gr_below wa g')) (by omega) (by omega) eb Heb2.out)
                    clear hwa
                    (refine wp_region_gr (by kernel_rfl) (by kernel_rfl) ?_; (repeat (go_big_quiet_step (first | (go_at_call 14; exact calls_gr (hmg.out _)) | fail))); refine wpQuiet_nil ?_; intro _ hw'; obtain ⟨g', hw''⟩ := hw'; subst hw'')
                    have HN8 := Lib.hid (HN.out.grow (gr_below wa g'))
                    clear hmg q0 q1 q2 l0 l1 l2 HN
                    cases eb with
                    | true =>
                      go_wp2_with fail
                      go_roundw
                      case rel => exact ⟨k + 1, by go_num, by omega, .inr ⟨k, rfl, hkl, by rw [HO.out]; exact hkl, by rw [HLcl.out]; exact hkl, Hok.out.symm, Heb.out.symm⟩, HN8⟩
                      case measure => simp [intOf]; omega
                    | false =>
                      go_wp2_with fail
                      go_roundw
                      case rel => exact ⟨k + 1, by go_num, by omega, .inl ⟨rfl, fun q hq => by
                        by_cases e : q = k
                        · subst e
                          rintro ⟨h1, h2, h3, h4⟩
                          rw [← Heb.out] at h4; cases h4
                        · exact Hno.out q (by omega)⟩, HN8⟩
                      case measure => simp [intOf]; omega
                · have hneg : decide ((a : Int) < 0) = false := by rw [decide_eq_false_iff_not]; omega
                  go_wp2_with fail
                  refine wp_name fun wa hwa => ?_
                  rw [← hwa] at HN
                  clear hwa
                  (refine wp_region_gr (by kernel_rfl) (by kernel_rfl) ?_; (repeat (go_big_quiet_step (fail))); refine wpQuiet_nil ?_; intro _ hw'; obtain ⟨g', hw''⟩ := hw'; subst hw'')
                  have HN8 := Lib.hid (HN.out.grow (gr_below wa g'))
                  clear HN
                  go_wp2_with fail
                  go_roundw
                  case rel => exact ⟨k + 1, by go_num, by omega, .inr ⟨a, rfl, haL, Ha⟩, HN8⟩
                  case measure => simp [intOf]; omega
              · obtain rfl : k = L.length := by omega
                rcases hat with ⟨rfl, Hno⟩ | ⟨a, rfl, haL, Ha⟩
                · exfalso
                  obtain ⟨q, h⟩ := Hfd.out
                  have h' := h
                  obtain ⟨h1, -⟩ := h'
                  rw [HO.out] at h1
                  exact Hno.out q h1 h
                · have hneg : decide ((a : Int) < 0) = false := by rw [decide_eq_false_iff_not]; omega
                  have HNd := Lib.hid (HN.out.drop.drop)
                  have hrow := HNd.out.mem (t := thRow base 4 1 (some ⟨g, 0, none⟩) L.length L.length (boolV O)) (by simp)
                  obtain ⟨o0, o1⟩ := row_bool hrow HO.out a (by rw [HO.out]; exact haL)
                  have hst := (World.ownsRow.stored (show World.ownsRow _ base 4 1 (.slice (some ⟨g, 0, none⟩) L.length L.length) L.length (boolV O) from hrow) a (.bool true)).1
                  rw [boolV_set] at hst
                  have HNs := Lib.hid (HNd.out.stepR ((Keeps.set _ ⟨g, a, none⟩ (.bool true)).weak (T := fun z => ∃ d : Addr, some (⟨g, 0, none⟩ : Addr) = some d ∧ d.block = z) (fun _ _ e => ⟨_, rfl, e.symm⟩)) (thRow base 4 1 (some ⟨g, 0, none⟩) L.length L.length (boolV (O.set a true))) hst (fun x hx => .inl hx))
                  clear hrow hst HN HNd
                  go_wp2_with fail
                  go_roundw
                  case rel => exact ⟨i + 1, C', O.set a true, by go_num, by omega, Hel, by rw [List.length_set]; exact HO, Lib.hid (Hnx.out a Ha.out), HNs⟩
                  case measure => simp [intOf]; omega
        · obtain rfl : i = L.length := by omega
          have hC0 : C = [] := List.length_eq_zero_iff.1 (by have := HCl.out; omega)
          subst hC0
          have hb := HNt.out.b
          clear HCl HCp HO
          go_wp2_with fail
          refine (len_cn HNt.out 0 rfl).mono ?_
          rintro e w15 ⟨rfl, rfl⟩
          go_wp2_with fail
          refine (known_any _).mono ?_
          rintro e w16 ⟨rfl, hb2⟩
          have hb6 := hb.trans (hb2.mono hb.size)
          clear hb2
          go_wp2_with fail
          go_ret
          exact ⟨rfl, hb6⟩

namespace NetKeepsLift
open Go.ChangeShapes Go.WideShapes Go.ChangeAt Go.RowKit Go.Joins Go.Deep
open Go.ChangeMaps (open_string shut_string)

theorem own : ownKnob Try.prog.godebug = none := by kernel_rfl
theorem laidOut : laidOutB Try.prog = true := by kernel_rfl

set_option maxHeartbeats 1000000 in
set_option maxRecDepth 100000 in
theorem lifted (os : Os) (started : os.Started) (H : Type) (enc : TypeId × Value → H) :
    ReturnsInHanded {} Try.checked os 3 .any (Rows.netKeepsSpec.pre6 enc Try.prog Try.f3 Rows.netKeepsRow.domain false) (Rows.netKeepsSpec.post enc Try.prog Try.f3 false true false false) := by
  refine returnsInHanded_of_change_sized (C := Try.checked) own started (by kernel_rfl) Try.func3
    (ChangeSpec.witness6 (enc := enc) (C := Try.checked) false ⟨#[], #[.slice none 0 0, .slice none 0 0, .slice none 0 0], []⟩ 8 (by kernel_rfl) (by kernel_rfl) (by kernel_rfl) (by kernel_rfl)) ?_
  intro W base args ds gs before hval0 hW hcnd hsz0 _
  have hval : ∀ (j : Nat) t v, Try.f3.params[j]? = some t → args[j]? = some v → Value.okWide Try.prog W .any base t v := hval0
  have hW' := hW
  obtain ⟨p, q, hA0, hV, rfl, hfz, hnd⟩ := hW
  have hA : DataW.TrodAll enc Try.prog W 0 (fun _ => true) true Try.f3.params.toList args.toList ds p := hA0
  have hsz : (DataW.weightsEach Try.prog (Try.f3.params.toList ++ Rows.netKeepsSpec.plain.varTypes Try.prog) (ds ++ gs)).all (· ≤ reachBytes) = true := hsz0
  rw [Try.params3] at hA hval hsz
  obtain ⟨v0, vs0, d0, ds0, p0, q0, hargs, rfl, rfl, h0, r0⟩ := trodAll_cons hA
  obtain ⟨v1, vs1, d1, ds1, p1, q1, rfl, rfl, rfl, h1, r1⟩ := trodAll_cons r0
  obtain ⟨v2, vs2, d2, ds2, p2, q2, rfl, rfl, rfl, h2, r2⟩ := trodAll_cons r1
  obtain ⟨rfl, rfl, rfl⟩ := trodAll_nil r2
  obtain rfl : args = #[v0, v1, v2] := by cases args; simp_all
  obtain ⟨rfl, rfl⟩ := trodVars_none hV
  have k0 := h0
  have lt0 : ∀ x ∈ p0, x.block < W.heap.size := by obtain ⟨m, hm⟩ := k0; exact DataW.trod_lt m _ _ _ hm
  have k1 := h1
  have lt1 : ∀ x ∈ p1, x.block < W.heap.size := by obtain ⟨m, hm⟩ := k1; exact DataW.trod_lt m _ _ _ hm
  have k2 := h2
  have lt2 : ∀ x ∈ p2, x.block < W.heap.size := by obtain ⟨m, hm⟩ := k2; exact DataW.trod_lt m _ _ _ hm
  have post : ∀ e W', e = Ending.returned (.bool true) → Below W.heap.size W W' → ∃ v, e = .returned v ∧ Rows.netKeepsSpec.post enc Try.prog Try.f3 false true false false W #[v0, v1, v2] v W' := by
    intro e W' he bel
    subst he
    exact ⟨_, rfl, _, _, _, [], _, [], hW', trodAll_mk1 (shut_bool Try.underlying4 _), (trodAll_cons_mk (Below.trod laidOut (by kernel_rfl) (of_decide_eq_true (by kernel_rfl)) k0 bel lt0) (trodAll_cons_mk (Below.trod laidOut (by kernel_rfl) (of_decide_eq_true (by kernel_rfl)) k1 bel lt1) (trodAll_cons_mk (Below.trod laidOut (by kernel_rfl) (of_decide_eq_true (by kernel_rfl)) k2 bel lt2) trodAll_mk0))), rfl, bel.frame _, fun h => by cases h⟩
  clear hW' hcnd hfz hnd hA0 hA hval0
  obtain ⟨ao, L, ca, rfl, hL1, hL2, hL3, hL4, hL5⟩ := open_msgs (hval 0 22 v0 rfl rfl) h0 (fits_top hsz (j := 0) rfl rfl)
  obtain ⟨no, Nl, nc, rfl, hN1, hN2, hN3⟩ := open_intsB (hval 1 23 v1 rfl rfl) h1
  obtain ⟨po, Pl, pc, rfl, hP1, hP2, hP3⟩ := open_intsB (hval 2 23 v2 rfl rfl) h2
  exact (keeps_any ao no po ca nc pc L Nl Pl W hL4 hL3 hL5 hN3 hP3 (by unfold maxLen at hN2; omega) (by unfold maxLen at hP2; omega) (fun m hm => by obtain ⟨i, hi, rfl⟩ := List.mem_iff_getElem.1 hm; obtain ⟨b, off, e, hb, hr⟩ := hL4 (by omega); exact (hr i hi).2.2.2.2.2.2)).mono fun e W' ⟨he, bel⟩ => post e W' he bel

theorem over : Rows.netKeepsRow.holds Try.pinned (OpenSpec.ofChange Rows.netKeepsSpec) :=
  OpenClaim.holds_of_wide 3 Try.f3 rfl rfl rfl rfl rfl rfl rfl ⟨rfl, rfl, rfl, rfl, rfl⟩ rfl rfl rfl rfl rfl (by kernel_rfl) Try.func3 (by kernel_rfl)
    (of_decide_eq_true (by kernel_rfl)) (by unfold Func.isWrapper; first | (rw [if_pos (by decide +kernel)]; kernel_rfl) | (rw [if_neg (by decide +kernel)]; exact ⟨rfl, rfl⟩))
    (fun os started H enc _ => lifted os started H enc)
end NetKeepsLift

/-- The statement. -/
theorem netKeeps_holds : Rows.NetKeepsSaid := NetKeepsLift.over
#print axioms netKeeps_holds
end Go.Proofs.Ytcboflabjdiadaa
