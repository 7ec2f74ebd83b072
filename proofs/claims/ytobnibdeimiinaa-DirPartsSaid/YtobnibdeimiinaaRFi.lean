/- The document's Find. -/
import Derived.Test.YtobnibdeimiinaaDOwn
namespace Go.Proofs.Ytobnibdeimiinaa
open Go.RowKit

set_option maxRecDepth 20000 in
set_option maxHeartbeats 2000000 in
theorem rfindZn_any {g zc : Nat} {l : List Zn} {w : World} (h : ZnAt w g l) (hm : l.length ≤ 1000) (v n : Int) (k : ByteArray) :
    Calls Try.prog 23 #[.agg #[.int .i64 v, .int .i64 n, .slice (some ⟨g, 0, none⟩) l.length zc], .string k] w (FindPost w (hasZ l k)) := by
  have Hz := Lib.hid h
  have hg := h.lt
  clear h
  go_enter Try.func23, Try.ntmps23
  go_wp2_with fail
  (refine wp_name fun wa hwa => ?_; have wa_s0 : w.heap.size < wa.heap.size := (by rw [hwa]; first | omega | (simp; done) | (simp; omega)); have wa_s1 : w.heap.size + 1 < wa.heap.size := (by rw [hwa]; first | omega | (simp; done) | (simp; omega)); have wa_s2 : g < wa.heap.size := (by rw [hwa]; first | omega | (simp; done) | (simp; omega)); have wa_c0 : wa.cell? ⟨w.heap.size, 2, none⟩ = some (.slice (some ⟨g, 0, none⟩) l.length zc) := (by rw [hwa]; go_simp); have wa_c1 : wa.cell? ⟨w.heap.size + 1, 0, none⟩ = some (.int .i64 0) := (by rw [hwa]; go_simp); have wa_f1 : wa.frozen? ⟨w.heap.size + 1, 0, none⟩ = false := (by rw [hwa]; go_simp); have wa_c2 : wa.cell? ⟨w.heap.size + 1, 1, none⟩ = some (.string ⟨#[]⟩) := (by rw [hwa]; go_simp); have wa_f2 : wa.frozen? ⟨w.heap.size + 1, 1, none⟩ = false := (by rw [hwa]; go_simp); have wa_c3 : wa.cell? ⟨w.heap.size + 1, 2, none⟩ = some (.string ⟨#[]⟩) := (by rw [hwa]; go_simp); have wa_f3 : wa.frozen? ⟨w.heap.size + 1, 2, none⟩ = false := (by rw [hwa]; go_simp); have wa_c4 : wa.cell? ⟨w.heap.size + 1, 3, none⟩ = some (.int .i64 0) := (by rw [hwa]; go_simp); have wa_f4 : wa.frozen? ⟨w.heap.size + 1, 3, none⟩ = false := (by rw [hwa]; go_simp); have wa_c5 : wa.cell? ⟨w.heap.size + 1, 4, none⟩ = some (.int .i64 0) := (by rw [hwa]; go_simp); have wa_f5 : wa.frozen? ⟨w.heap.size + 1, 4, none⟩ = false := (by rw [hwa]; go_simp); have wa_c6 : wa.cell? ⟨w.heap.size + 1, 5, none⟩ = some (.int .i64 0) := (by rw [hwa]; go_simp); have wa_f6 : wa.frozen? ⟨w.heap.size + 1, 5, none⟩ = false := (by rw [hwa]; go_simp); have wa_c7 : wa.cell? ⟨w.heap.size + 1, 6, none⟩ = some (.int .i64 0) := (by rw [hwa]; go_simp); have wa_f7 : wa.frozen? ⟨w.heap.size + 1, 6, none⟩ = false := (by rw [hwa]; go_simp); have wa_c8 : wa.cell? ⟨w.heap.size + 1, 7, none⟩ = some (.string ⟨#[]⟩) := (by rw [hwa]; go_simp); have wa_f8 : wa.frozen? ⟨w.heap.size + 1, 7, none⟩ = false := (by rw [hwa]; go_simp); have wa_c9 : wa.cell? ⟨w.heap.size + 1, 8, none⟩ = some (.int .i64 0) := (by rw [hwa]; go_simp); have wa_f9 : wa.frozen? ⟨w.heap.size + 1, 8, none⟩ = false := (by rw [hwa]; go_simp); have wa_b : Below w.heap.size w wa := (by rw [hwa]; exact (by repeat (first | with_reducible exact Below.refl _ _ | with_reducible assumption | with_reducible refine Below.drew ?_ | with_reducible refine below_drawn ?_ | with_reducible refine Below.alloc ?_ (by first | omega | (simp; done) | (simp; omega) | (simp at *; omega)) _ | with_reducible refine Below.setCell ?_ (by first | omega | (simp; done) | (simp; omega) | (simp at *; omega)) _ | with_reducible refine Below.trans ?_ (Below.mono (by assumption) (by first | omega | (simp; done) | (simp; omega) | (simp at *; omega)))))); clear hwa)
  have hwa : w.heap.size ≤ wa.heap.size := by omega
  go_loopw [6] (fun s wr => ∃ i : Nat, s = .int .i64 i ∧ i ≤ l.length ∧ Hid (∀ j (hj : j < l.length), j < i → inB l[j].fr l[j].to k = false) ∧ Hid (Below wa.heap.size wa wr)) (fun s _ => l.length - (intOf s).toNat)
  case atStart => exact ⟨0, rfl, by omega, fun j _ hj => by omega, Lib.hid (Below.refl _ _)⟩
  case round =>
    obtain ⟨i, rfl, hi, Hne, Hb⟩ := hrel
    have wr_w : Below w.heap.size w wr := wa_b.trans (Hb.out.mono hwa)
    have hsr := Hb.out.size
    have hNr : w.heap.size < wr.heap.size := by omega
    have hNr1 : w.heap.size + 1 < wr.heap.size := by omega
    have hgr : g < wr.heap.size := by omega
    have wr_b := Hb.out
    obtain ⟨xc, xf⟩ := bcell Hb.out
    by_cases hlt : i < l.length
    · obtain ⟨z, hz⟩ : ∃ z, z = l[i] := ⟨_, rfl⟩
      obtain ⟨d0, d1, d2, d3, d4, d5, d6, d7, d8⟩ := (Hz.out.grow wa_b).nine i hlt z hz
      have Hv := Lib.hid hz
      obtain ⟨b, hb⟩ : ∃ b, b = inB z.fr z.to k := ⟨_, rfl⟩
      have hin := fun w => satrapyref12_in z.fr z.to k w
      rw [← hb] at hin
      have Hin := Lib.hid hin
      have Hbb := Lib.hid hb
      clear hz hb hin
      go_wp2_with fail
      refine (Hin.out _).mono ?_
      rintro e w1 ⟨rfl, hbw⟩
      have hb1 : Below wa.heap.size wa w1 := wr_b.trans (hbw.mono hsr)
      have hw1 : Below w.heap.size w w1 := wa_b.trans (hb1.mono hwa)
      have hz1 := hbw.size
      have s1a : w.heap.size < w1.heap.size := by omega
      have s1b : w.heap.size + 1 < w1.heap.size := by omega
      have s1c : g < w1.heap.size := by omega
      obtain ⟨yc, yf⟩ := bcell hb1
      clear hbw xc xf
      cases b
      · clear yc yf
        go_wp2_with fail
        go_roundw
        case rel => exact ⟨i + 1, by go_num, by omega, fun j hj hji => by
          by_cases h : j = i
          · subst h; rw [← Hv.out]; exact Hbb.out.symm
          · exact Hne.out j hj (by omega), Lib.hid hb1⟩
        case measure => simp [intOf]; omega
      · go_wp2_with fail
        refine bodyPost_ret (v := .tuple #[.agg #[.int .i64 z.id, .string z.fr, .string z.to, .int .i64 z.owner, .int .i64 z.epoch, .int .i64 z.pend, .int .i64 z.tt, .string z.key, .int .i64 z.nw], .bool true]) (by simp only [results, Try.results23]; go_simp) rfl ?_
        have hh := hasZ_at hlt (by rw [← Hv.out]; exact Hbb.out.symm) Hne.out
        rw [hh, ← Hv.out]
        have hl1 : w.heap.size ≤ w.heap.size + 1 := by omega
        exact ⟨rfl, (((((((((hw1.setCell hl1 _).setCell hl1 _).setCell hl1 _).setCell hl1 _).setCell hl1 _).setCell hl1 _).setCell hl1 _).setCell hl1 _).setCell hl1 _)⟩
    · go_wp2_with fail
      refine bodyPost_ret (v := .tuple #[.agg #[.int .i64 zz0.id, .string zz0.fr, .string zz0.to, .int .i64 zz0.owner, .int .i64 zz0.epoch, .int .i64 zz0.pend, .int .i64 zz0.tt, .string zz0.key, .int .i64 zz0.nw], .bool false]) (by simp only [results, Try.results23]; go_simp; simp [zz0]) rfl ?_
      have hh := hasZ_none (l := l) (k := k) (fun j hj => Hne.out j hj (by omega))
      rw [hh]
      have hl1 : w.heap.size ≤ w.heap.size + 1 := by omega
      exact ⟨rfl, (((((((((wr_w.setCell hl1 _).setCell hl1 _).setCell hl1 _).setCell hl1 _).setCell hl1 _).setCell hl1 _).setCell hl1 _).setCell hl1 _).setCell hl1 _)⟩
end Go.Proofs.Ytobnibdeimiinaa
