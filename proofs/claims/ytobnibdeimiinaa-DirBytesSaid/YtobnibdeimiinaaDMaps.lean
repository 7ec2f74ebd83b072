/- The laws' maps: two maps. -/
import Derived.Test.YtobnibdeimiinaaDOwn
namespace Go.Proofs.Ytobnibdeimiinaa
open Go.RowKit

def eqZ (a b : Zn) : Bool := decide (a.id = b.id ∧ a.fr.toList = b.fr.toList ∧ a.to.toList = b.to.toList ∧ a.owner = b.owner ∧ a.epoch = b.epoch ∧ a.pend = b.pend ∧ a.tt = b.tt ∧ a.key.toList = b.key.toList ∧ a.nw = b.nw)
theorem toList_eq {a b : ByteArray} : a.toList = b.toList ↔ a = b := by
  constructor
  · intro h
    rw [ByteArray.toList_eq, ByteArray.toList_eq] at h
    cases a; cases b; simp at h; rw [h]
  · rintro rfl; rfl
theorem eqZ_iff (a b : Zn) : eqZ a b = decide (a = b) := by
  unfold eqZ
  obtain ⟨a0, a1, a2, a3, a4, a5, a6, a7, a8⟩ := a
  obtain ⟨b0, b1, b2, b3, b4, b5, b6, b7, b8⟩ := b
  simp only [Zn.mk.injEq, toList_eq]
set_option maxHeartbeats 1000000 in
theorem eql_zn (a b : Zn) (w : World) (r : Bool) (hr : eqZ a b = r) : (Op.equalIn 10000 39 (.agg #[.int .i64 a.id, .string a.fr, .string a.to, .int .i64 a.owner, .int .i64 a.epoch, .int .i64 a.pend, .int .i64 a.tt, .string a.key, .int .i64 a.nw]) (.agg #[.int .i64 b.id, .string b.fr, .string b.to, .int .i64 b.owner, .int .i64 b.epoch, .int .i64 b.pend, .int .i64 b.tt, .string b.key, .int .i64 b.nw])).run Try.prog w = .ok r w := by
  subst hr
  unfold eqZ
  go_simp
  by_cases h1 : a.id = b.id
  · by_cases h2 : a.fr.toList = b.fr.toList
    · by_cases h3 : a.to.toList = b.to.toList
      · by_cases h4 : a.owner = b.owner
        · by_cases h5 : a.epoch = b.epoch
          · by_cases h6 : a.pend = b.pend
            · by_cases h7 : a.tt = b.tt
              · by_cases h8 : a.key.toList = b.key.toList
                · by_cases h9 : a.nw = b.nw
                  · simp [h1, h2, h3, h4, h5, h6, h7, h8, h9]
                  · simp [h1, h2, h3, h4, h5, h6, h7, h8, h9]
                · simp [h1, h2, h3, h4, h5, h6, h7, h8]
              · simp [h1, h2, h3, h4, h5, h6, h7]
            · simp [h1, h2, h3, h4, h5, h6]
          · simp [h1, h2, h3, h4, h5]
        · simp [h1, h2, h3, h4]
      · simp [h1, h2, h3]
    · simp [h1, h2]
  · simp [h1]
theorem maps_nil (w : World) : Calls Try.prog 16 #[.agg #[.int .i64 0, .int .i64 0, .slice none 0 0], .agg #[.int .i64 0, .int .i64 0, .slice none 0 0]] w fun e w' => e = .returned (.bool true) ∧ Below w.heap.size w w' := by
  go_enter Try.func16, Try.ntmps16
  go_wp2_with fail
  (refine wp_loop_rounds 1 ?_; (repeat any_goals (rw [rounds_succ]; go_wp2_with fail)))
  go_ret
  exact ⟨rfl, (by repeat (first | with_reducible exact Below.refl _ _ | with_reducible assumption | with_reducible refine Below.drew ?_ | with_reducible refine below_drawn ?_ | with_reducible refine Below.alloc ?_ (by first | omega | (simp; done) | (simp; omega) | (simp at *; omega)) _ | with_reducible refine Below.setCell ?_ (by first | omega | (simp; done) | (simp; omega) | (simp at *; omega)) _ | with_reducible refine Below.trans ?_ (Below.mono (by assumption) (by first | omega | (simp; done) | (simp; omega) | (simp at *; omega)))))⟩
theorem takeZ_same {a b : List Zn} {k : Nat} (h : a.take k = b.take k) (ha : k < a.length) (hb : k < b.length) (e : a[k] = b[k]) : a.take (k + 1) = b.take (k + 1) := by
  rw [List.take_succ_eq_append_getElem ha, List.take_succ_eq_append_getElem hb, h, e]
def mapsB (v1 n1 v2 n2 : Int) (l1 l2 : List Zn) : Bool := decide (v1 = v2 ∧ n1 = n2 ∧ l1 = l2)
set_option maxRecDepth 20000 in
set_option maxHeartbeats 4000000 in
theorem maps_any {g1 g2 k1 k2 : Nat} {l1 l2 : List Zn} {w : World} (h1 : ZnAt w g1 l1) (h2 : ZnAt w g2 l2) (hm : l1.length ≤ 1000) (v1 n1 v2 n2 : Int) :
    Calls Try.prog 16 #[.agg #[.int .i64 v1, .int .i64 n1, .slice (some ⟨g1, 0, none⟩) l1.length k1], .agg #[.int .i64 v2, .int .i64 n2, .slice (some ⟨g2, 0, none⟩) l2.length k2]] w fun e w' => e = .returned (.bool (mapsB v1 n1 v2 n2 l1 l2)) ∧ Below w.heap.size w w' := by
  have H1 := Lib.hid h1
  have H2 := Lib.hid h2
  clear h1 h2
  by_cases q1 : v1 = v2
  · have e1 : (v1 != v2) = false := by rw [bne_eq_false_iff_eq]; exact q1
    by_cases q2 : n1 = n2
    · have e2 : (n1 != n2) = false := by rw [bne_eq_false_iff_eq]; exact q2
      by_cases q3 : l1.length = l2.length
      · have hm2 : l2.length ≤ 1000 := by omega
        obtain ⟨n, hn⟩ : ∃ n, n = l1.length := ⟨_, rfl⟩
        have hn2 : n = l2.length := by omega
        rw [← hn] at hm ⊢
        rw [← hn2]
        have Hn := Lib.hid hn
        have Hn2 := Lib.hid hn2
        have HM : Hid (mapsB v1 n1 v2 n2 l1 l2 = decide (l1 = l2)) := by unfold mapsB; simp [q1, q2, Hid]
        have hg1 := H1.out.lt
        have hg2 := H2.out.lt
        clear hn hn2 q3 q1 q2 hm2
        go_enter Try.func16, Try.ntmps16
        go_wp2_with fail
        (refine wp_name fun wa hwa => ?_; have wa_s0 : g1 < wa.heap.size := (by rw [hwa]; first | omega | (simp; done) | (simp; omega)); have wa_s1 : g2 < wa.heap.size := (by rw [hwa]; first | omega | (simp; done) | (simp; omega)); have wa_s2 : w.heap.size < wa.heap.size := (by rw [hwa]; first | omega | (simp; done) | (simp; omega)); have wa_s3 : w.heap.size + 1 < wa.heap.size := (by rw [hwa]; first | omega | (simp; done) | (simp; omega)); have wa_c0 : wa.cell? ⟨w.heap.size, 2, none⟩ = some (.slice (some ⟨g1, 0, none⟩) n k1) := (by rw [hwa]; go_simp); have wa_c1 : wa.cell? ⟨w.heap.size + 1, 2, none⟩ = some (.slice (some ⟨g2, 0, none⟩) n k2) := (by rw [hwa]; go_simp); have wa_b : Below w.heap.size w wa := (by rw [hwa]; exact (by repeat (first | with_reducible exact Below.refl _ _ | with_reducible assumption | with_reducible refine Below.drew ?_ | with_reducible refine below_drawn ?_ | with_reducible refine Below.alloc ?_ (by first | omega | (simp; done) | (simp; omega) | (simp at *; omega)) _ | with_reducible refine Below.setCell ?_ (by first | omega | (simp; done) | (simp; omega) | (simp at *; omega)) _ | with_reducible refine Below.trans ?_ (Below.mono (by assumption) (by first | omega | (simp; done) | (simp; omega) | (simp at *; omega)))))); clear hwa)
        have wa_le := wa_b.size
        go_loopw [5] (fun s wr => ∃ i : Nat, s = .int .i64 i ∧ i ≤ n ∧ Hid (l1.take i = l2.take i) ∧ Hid (Below wa.heap.size wa wr)) (fun s _ => n - (intOf s).toNat)
        case atStart => exact ⟨0, rfl, by omega, Lib.hid rfl, Lib.hid (Below.refl _ _)⟩
        case round =>
          obtain ⟨i, rfl, hi, Ht, Hb⟩ := hrel
          have wr_b := wa_b.trans (Hb.out.mono wa_le)
          have hsr := Hb.out.size
          obtain ⟨xc, xf⟩ := bcell Hb.out
          have r0 := (xc _ _ wa_s2).trans wa_c0
          have r1 := (xc _ _ wa_s3).trans wa_c1
          have rs0 : g1 < wr.heap.size := by omega
          have rs1 : g2 < wr.heap.size := by omega
          have rs2 : w.heap.size < wr.heap.size := by omega
          have rs3 : w.heap.size + 1 < wr.heap.size := by omega
          clear xc xf
          by_cases hlt : i < n
          · have hl1 : i < l1.length := by have := Hn.out; omega
            have hl2 : i < l2.length := by have := Hn2.out; omega
            obtain ⟨z, hz⟩ : ∃ z, z = l1[i] := ⟨_, rfl⟩
            obtain ⟨y, hy⟩ : ∃ y, y = l2[i] := ⟨_, rfl⟩
            obtain ⟨d0, d1, d2, d3, d4, d5, d6, d7, d8⟩ := (H1.out.grow wr_b).nine i hl1 z hz
            obtain ⟨f0, f1, f2, f3, f4, f5, f6, f7, f8⟩ := (H2.out.grow wr_b).nine i hl2 y hy
            have Hz := Lib.hid hz
            have Hy := Lib.hid hy
            obtain ⟨r, hr⟩ : ∃ r, r = decide (z = y) := ⟨_, rfl⟩
            have heq := fun w => eql_zn z y w r ((eqZ_iff z y).trans hr.symm)
            have Hr := Lib.hid hr
            clear hz hy hr
            obtain ⟨wo, rfl⟩ : ∃ wo : World, wo = wr := ⟨_, rfl⟩
            cases r
            · go_wp2_with fail
              (refine wp_region_gr (by kernel_rfl) (by kernel_rfl) ?_; (repeat (go_big_quiet_step (fail))); refine wpQuiet_nil ?_; intro _ hw'; obtain ⟨g0, hw''⟩ := hw'; subst hw'')
              go_wp2_with fail
              go_ret
              refine ⟨?_, wr_b.trans ((gr_below wo g0).mono (by omega))⟩
              have hne : l1 ≠ l2 := fun e => by
                have hzy : z = y := by rw [Hz.out, Hy.out]; simp [e]
                have := Hr.out
                rw [hzy] at this
                simp at this
              rw [HM.out, decide_eq_false hne]; rfl
            · go_wp2_with fail
              (refine wp_region_gr (by kernel_rfl) (by kernel_rfl) ?_; (repeat (go_big_quiet_step (fail))); refine wpQuiet_nil ?_; intro _ hw'; obtain ⟨g0, hw''⟩ := hw'; subst hw'')
              go_wp2_with fail
              go_roundw
              case rel => exact ⟨i + 1, by go_num, by omega, Lib.hid (takeZ_same Ht.out hl1 hl2 (by rw [← Hz.out, ← Hy.out]; simpa using Hr.out)), Lib.hid (Hb.out.trans ((gr_below wo g0).mono (by omega)))⟩
              case measure => simp [intOf]; omega
          · go_wp2_with fail
            go_ret
            refine ⟨?_, wr_b⟩
            have he : l1 = l2 := by
              have := Ht.out
              rwa [List.take_of_length_le (by rw [← Hn.out]; omega), List.take_of_length_le (by rw [← Hn2.out]; omega)] at this
            rw [HM.out, decide_eq_true he]; rfl
      · have e3 : ((l1.length : Int) != (l2.length : Int)) = true := by rw [bne_iff_ne]; omega
        have HF : Hid (mapsB v1 n1 v2 n2 l1 l2 = false) := by unfold mapsB; exact Lib.hid (decide_eq_false (fun h => q3 (by rw [h.2.2])))
        clear q1 q2 q3
        (go_enter Try.func16, Try.ntmps16; (go_wp2_with fail); go_ret; exact ⟨by rw [HF.out]; rfl, (by repeat (first | with_reducible exact Below.refl _ _ | with_reducible assumption | with_reducible refine Below.drew ?_ | with_reducible refine below_drawn ?_ | with_reducible refine Below.alloc ?_ (by first | omega | (simp; done) | (simp; omega) | (simp at *; omega)) _ | with_reducible refine Below.setCell ?_ (by first | omega | (simp; done) | (simp; omega) | (simp at *; omega)) _ | with_reducible refine Below.trans ?_ (Below.mono (by assumption) (by first | omega | (simp; done) | (simp; omega) | (simp at *; omega)))))⟩)
    · have e2 : (n1 != n2) = true := by rw [bne_iff_ne]; exact q2
      have HF : Hid (mapsB v1 n1 v2 n2 l1 l2 = false) := by unfold mapsB; exact Lib.hid (decide_eq_false (fun h => q2 h.2.1))
      clear q1 q2
      (go_enter Try.func16, Try.ntmps16; (go_wp2_with fail); go_ret; exact ⟨by rw [HF.out]; rfl, (by repeat (first | with_reducible exact Below.refl _ _ | with_reducible assumption | with_reducible refine Below.drew ?_ | with_reducible refine below_drawn ?_ | with_reducible refine Below.alloc ?_ (by first | omega | (simp; done) | (simp; omega) | (simp at *; omega)) _ | with_reducible refine Below.setCell ?_ (by first | omega | (simp; done) | (simp; omega) | (simp at *; omega)) _ | with_reducible refine Below.trans ?_ (Below.mono (by assumption) (by first | omega | (simp; done) | (simp; omega) | (simp at *; omega)))))⟩)
  · have e1 : (v1 != v2) = true := by rw [bne_iff_ne]; exact q1
    have HF : Hid (mapsB v1 n1 v2 n2 l1 l2 = false) := by unfold mapsB; exact Lib.hid (decide_eq_false (fun h => q1 h.1))
    clear q1
    (go_enter Try.func16, Try.ntmps16; (go_wp2_with fail); go_ret; exact ⟨by rw [HF.out]; rfl, (by repeat (first | with_reducible exact Below.refl _ _ | with_reducible assumption | with_reducible refine Below.drew ?_ | with_reducible refine below_drawn ?_ | with_reducible refine Below.alloc ?_ (by first | omega | (simp; done) | (simp; omega) | (simp at *; omega)) _ | with_reducible refine Below.setCell ?_ (by first | omega | (simp; done) | (simp; omega) | (simp at *; omega)) _ | with_reducible refine Below.trans ?_ (Below.mono (by assumption) (by first | omega | (simp; done) | (simp; omega) | (simp at *; omega)))))⟩)
end Go.Proofs.Ytobnibdeimiinaa
