/- The laws' maps at equal maps, and heavyMap. -/
import Derived.Test.YtobnibdeimiinaaOEn
import Derived.Test.YtobnibdeimiinaaDMaps
namespace Go.Proofs.Ytobnibdeimiinaa.O
open Go.RowKit
set_option maxRecDepth 20000

set_option maxHeartbeats 4000000 in
theorem maps_eq (a1 a2 : Option Addr) (k1 k2 : Nat) (l : List Zn) (ver nx : Int) (w : World) (h1 : ZsAt w a1 l) (h2 : ZsAt w a2 l) (hm : l.length ≤ 100000) :
    Calls Try.prog 16 #[.agg #[.int .i64 ver, .int .i64 nx, .slice a1 l.length k1], .agg #[.int .i64 ver, .int .i64 nx, .slice a2 l.length k2]] w fun e w' => e = .returned (.bool true) ∧ Below w.heap.size w w' := by
  have H1 := Lib.hid h1
  have H2 := Lib.hid h2
  obtain ⟨n, hn⟩ : ∃ n, n = l.length := ⟨_, rfl⟩
  rw [← hn] at hm ⊢
  have Hn := Lib.hid hn
  clear h1 h2 hn
  have e1 : (ver != ver) = false := by simp
  have e2 : (nx != nx) = false := by simp
  go_enter Try.func16, Try.ntmps16
  go_wp2_with fail
  (refine wp_name fun wa hwa => ?_; have wa_s0 : w.heap.size < wa.heap.size := (by rw [hwa]; first | omega | (simp; done) | (simp; omega)); have wa_s1 : w.heap.size + 1 < wa.heap.size := (by rw [hwa]; first | omega | (simp; done) | (simp; omega)); have wa_c0 : wa.cell? ⟨w.heap.size, 2, none⟩ = some (.slice a1 n k1) := (by rw [hwa]; go_simp); have wa_c1 : wa.cell? ⟨w.heap.size + 1, 2, none⟩ = some (.slice a2 n k2) := (by rw [hwa]; go_simp); have wa_b : Below w.heap.size w wa := (by rw [hwa]; exact (by repeat (first | with_reducible exact Below.refl _ _ | with_reducible assumption | with_reducible refine Below.drew ?_ | with_reducible refine below_drawn ?_ | with_reducible refine Below.alloc ?_ (by first | omega | (simp; done) | (simp; omega) | (simp at *; omega)) _ | with_reducible refine Below.setCell ?_ (by first | omega | (simp; done) | (simp; omega) | (simp at *; omega)) _ | with_reducible refine Below.trans ?_ (Below.mono (by assumption) (by first | omega | (simp; done) | (simp; omega) | (simp at *; omega)))))); clear hwa)
  have wa_le := wa_b.size
  go_loopw [5] (fun s wr => ∃ i : Nat, s = .int .i64 i ∧ i ≤ n ∧ Hid (Below wa.heap.size wa wr)) (fun s _ => n - (intOf s).toNat)
  case atStart => exact ⟨0, rfl, by omega, Lib.hid (Below.refl _ _)⟩
  case round =>
    obtain ⟨i, rfl, hi, Hb⟩ := hrel
    have wr_b := wa_b.trans (Hb.out.mono wa_le)
    have hsr := Hb.out.size
    obtain ⟨xc, xf⟩ := bcell Hb.out
    have r0 := (xc _ _ wa_s0).trans wa_c0
    have r1 := (xc _ _ wa_s1).trans wa_c1
    have rs2 : w.heap.size < wr.heap.size := by omega
    have rs3 : w.heap.size + 1 < wr.heap.size := by omega
    clear xc xf
    by_cases hlt : i < n
    · have hl1 : i < l.length := by have := Hn.out; omega
      obtain ⟨g1, o1, rfl, hz1⟩ := H1.out (by omega)
      obtain ⟨g2, o2, rfl, hz2⟩ := H2.out (by omega)
      have u1 : g1 < wr.heap.size := Nat.lt_of_lt_of_le hz1.lt wr_b.size
      have u2 : g2 < wr.heap.size := Nat.lt_of_lt_of_le hz2.lt wr_b.size
      obtain ⟨z, hz⟩ : ∃ z, z = l[i] := ⟨_, rfl⟩
      obtain ⟨d0, d1, d2, d3, d4, d5, d6, d7, d8⟩ := (hz1.grow wr_b).nine i hl1 z hz
      obtain ⟨f0, f1, f2, f3, f4, f5, f6, f7, f8⟩ := (hz2.grow wr_b).nine i hl1 z hz
      have heq := fun w => eql_zn z z w true (by unfold eqZ; simp)
      obtain ⟨wo, rfl⟩ : ∃ wo : World, wo = wr := ⟨_, rfl⟩
      clear hz hz1 hz2
      go_wp2_with fail
      (refine wp_region_gr (by kernel_rfl) (by kernel_rfl) ?_; (repeat (go_big_quiet_step (fail))); refine wpQuiet_nil ?_; intro _ hw'; obtain ⟨g0, hw''⟩ := hw'; subst hw'')
      go_wp2_with fail
      go_roundw
      case rel => exact ⟨i + 1, by go_num, by omega, Lib.hid (Hb.out.trans ((gr_below wo g0).mono (by omega)))⟩
      case measure => simp [intOf]; omega
    · go_wp2_with fail
      go_ret
      exact ⟨rfl, wr_b⟩
/-- Sizes of a map that is looked at. -/
def LtB (l : List Zn) : Prop := l.length ≤ 60 ∧ ∀ z ∈ l, z.fr.size ≤ 60 ∧ z.to.size ≤ 60 ∧ z.key.size ≤ 60
theorem LtB.sz {m : Mp} (h : LtB m.zs) : SzB m := ⟨by have := h.1; omega, fun z hz => by have := h.2 z hz; omega⟩
def HmPost (w : World) (l : List Zn) (e : Ending) (w' : World) : Prop := Below w.heap.size w w' ∧ (e = .returned (.bool true) ∨ (e = .returned (.bool false) ∧ LtB l))
set_option maxHeartbeats 4000000 in
theorem heavyMap_any (ao : Option Addr) (zc : Nat) (l : List Zn) (ver nx : Int) (w : World) (h : ZsAt w ao l) (hm : l.length ≤ 9223372036854775807) :
    Calls Try.prog 25 #[.agg #[.int .i64 ver, .int .i64 nx, .slice ao l.length zc]] w (HmPost w l) := by
  have H := Lib.hid h
  obtain ⟨n, hn⟩ : ∃ n, n = l.length := ⟨_, rfl⟩
  rw [← hn] at hm ⊢
  have Hn := Lib.hid hn
  clear h hn
  rcases Bool.eq_false_or_eq_true (decide ((60 : Int) < n)) with t1 | t1
  · go_enter Try.func25, Try.ntmps25
    (go_wp2_with fail; go_ret; exact ⟨(by repeat (first | with_reducible exact Below.refl _ _ | with_reducible assumption | with_reducible refine Below.drew ?_ | with_reducible refine below_drawn ?_ | with_reducible refine Below.alloc ?_ (by first | omega | (simp; done) | (simp; omega) | (simp at *; omega)) _ | with_reducible refine Below.setCell ?_ (by first | omega | (simp; done) | (simp; omega) | (simp at *; omega)) _ | with_reducible refine Below.trans ?_ (Below.mono (by assumption) (by first | omega | (simp; done) | (simp; omega) | (simp at *; omega))))), .inl rfl⟩)
  have hn60 : n ≤ 60 := by rw [decide_eq_false_iff_not] at t1; omega
  go_enter Try.func25, Try.ntmps25
  go_wp2_with fail
  (refine wp_name fun wa hwa => ?_; have wa_s0 : w.heap.size < wa.heap.size := (by rw [hwa]; first | omega | (simp; done) | (simp; omega)); have wa_c0 : wa.cell? ⟨w.heap.size, 2, none⟩ = some (.slice ao n zc) := (by rw [hwa]; go_simp); have wa_b : Below w.heap.size w wa := (by rw [hwa]; exact (by repeat (first | with_reducible exact Below.refl _ _ | with_reducible assumption | with_reducible refine Below.drew ?_ | with_reducible refine below_drawn ?_ | with_reducible refine Below.alloc ?_ (by first | omega | (simp; done) | (simp; omega) | (simp at *; omega)) _ | with_reducible refine Below.setCell ?_ (by first | omega | (simp; done) | (simp; omega) | (simp at *; omega)) _ | with_reducible refine Below.trans ?_ (Below.mono (by assumption) (by first | omega | (simp; done) | (simp; omega) | (simp at *; omega)))))); clear hwa)
  have wa_le := wa_b.size
  go_loopw [3] (fun s wr => ∃ i : Nat, s = .int .i64 i ∧ i ≤ n ∧ Hid (∀ j (hj : j < l.length), j < i → l[j].fr.size ≤ 60 ∧ l[j].to.size ≤ 60 ∧ l[j].key.size ≤ 60) ∧ Hid (Below wa.heap.size wa wr)) (fun s _ => n - (intOf s).toNat)
  case atStart => exact ⟨0, rfl, by omega, Lib.hid (fun j _ hj => by omega), Lib.hid (Below.refl _ _)⟩
  case round =>
    obtain ⟨i, rfl, hi, Hok, Hb⟩ := hrel
    have wr_b := wa_b.trans (Hb.out.mono wa_le)
    have hsr := Hb.out.size
    obtain ⟨xc, xf⟩ := bcell Hb.out
    have r0 := (xc _ _ wa_s0).trans wa_c0
    have rs2 : w.heap.size < wr.heap.size := by omega
    clear xc xf
    by_cases hlt : i < n
    · have hl1 : i < l.length := by have := Hn.out; omega
      obtain ⟨g1, o1, rfl, hz1⟩ := H.out (by omega)
      have u1 : g1 < wr.heap.size := Nat.lt_of_lt_of_le hz1.lt wr_b.size
      obtain ⟨z, hz⟩ : ∃ z, z = l[i] := ⟨_, rfl⟩
      obtain ⟨d0, d1, d2, d3, d4, d5, d6, d7, d8⟩ := (hz1.grow wr_b).nine i hl1 z hz
      have Hz := Lib.hid hz
      clear hz hz1
      rcases Bool.eq_false_or_eq_true (decide ((60 : Int) < z.fr.size)) with t2 | t2
      · (go_wp2_with fail; go_ret; exact ⟨(by repeat (first | with_reducible exact Below.refl _ _ | with_reducible assumption | with_reducible refine Below.drew ?_ | with_reducible refine below_drawn ?_ | with_reducible refine Below.alloc ?_ (by first | omega | (simp; done) | (simp; omega) | (simp at *; omega)) _ | with_reducible refine Below.setCell ?_ (by first | omega | (simp; done) | (simp; omega) | (simp at *; omega)) _ | with_reducible refine Below.trans ?_ (Below.mono (by assumption) (by first | omega | (simp; done) | (simp; omega) | (simp at *; omega))))), .inl rfl⟩)
      rcases Bool.eq_false_or_eq_true (decide ((60 : Int) < z.to.size)) with t3 | t3
      · (go_wp2_with fail; go_ret; exact ⟨(by repeat (first | with_reducible exact Below.refl _ _ | with_reducible assumption | with_reducible refine Below.drew ?_ | with_reducible refine below_drawn ?_ | with_reducible refine Below.alloc ?_ (by first | omega | (simp; done) | (simp; omega) | (simp at *; omega)) _ | with_reducible refine Below.setCell ?_ (by first | omega | (simp; done) | (simp; omega) | (simp at *; omega)) _ | with_reducible refine Below.trans ?_ (Below.mono (by assumption) (by first | omega | (simp; done) | (simp; omega) | (simp at *; omega))))), .inl rfl⟩)
      rcases Bool.eq_false_or_eq_true (decide ((60 : Int) < z.key.size)) with t4 | t4
      · (go_wp2_with fail; go_ret; exact ⟨(by repeat (first | with_reducible exact Below.refl _ _ | with_reducible assumption | with_reducible refine Below.drew ?_ | with_reducible refine below_drawn ?_ | with_reducible refine Below.alloc ?_ (by first | omega | (simp; done) | (simp; omega) | (simp at *; omega)) _ | with_reducible refine Below.setCell ?_ (by first | omega | (simp; done) | (simp; omega) | (simp at *; omega)) _ | with_reducible refine Below.trans ?_ (Below.mono (by assumption) (by first | omega | (simp; done) | (simp; omega) | (simp at *; omega))))), .inl rfl⟩)
      have Hs : Hid (z.fr.size ≤ 60 ∧ z.to.size ≤ 60 ∧ z.key.size ≤ 60) := by
        rw [decide_eq_false_iff_not] at t2 t3 t4
        exact Lib.hid ⟨by omega, by omega, by omega⟩
      go_wp2_with fail
      go_roundw
      case rel => exact ⟨i + 1, by go_num, by omega, Lib.hid (fun j hj hji => by
        by_cases e : j = i
        · subst e; rw [← Hz.out]; exact Hs.out
        · exact Hok.out j hj (by omega)), Lib.hid (Hb.out.trans (by repeat (first | with_reducible exact Below.refl _ _ | with_reducible assumption | with_reducible refine Below.drew ?_ | with_reducible refine below_drawn ?_ | with_reducible refine Below.alloc ?_ (by first | omega | (simp; done) | (simp; omega) | (simp at *; omega)) _ | with_reducible refine Below.setCell ?_ (by first | omega | (simp; done) | (simp; omega) | (simp at *; omega)) _ | with_reducible refine Below.trans ?_ (Below.mono (by assumption) (by first | omega | (simp; done) | (simp; omega) | (simp at *; omega))))))⟩
      case measure => simp [intOf]; omega
    · go_wp2_with fail
      go_ret
      refine ⟨wr_b, .inr ⟨rfl, by rw [← Hn.out]; exact hn60, fun z hz => ?_⟩⟩
      obtain ⟨j, hj, rfl⟩ := List.mem_iff_getElem.1 hz
      exact Hok.out j hj (by have := Hn.out; omega)
end Go.Proofs.Ytobnibdeimiinaa.O
