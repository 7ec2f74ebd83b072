/- The contract of Would. -/
import Derived.Test.YtobnibdeimiinaaDKnown
namespace Go.Proofs.Ytobnibdeimiinaa
open Go.RowKit

theorem St.mapRowD {W w w' : World} {L : List Th} {g c : Nat} {l : List Zn} (h : St W w L) (hb : Below w.heap.size w w') (ho : OwnZ w' w.heap.size g c l) : St W w' (thZ W.heap.size g c l :: L) :=
  h.new hb _ (ho.weak h.b.size) (fun x e => by rw [show x = g from e]; exact ho.facts.1)
set_option maxRecDepth 20000 in
set_option maxHeartbeats 2000000 in
theorem would_any {W w : World} {L : List Th} {p g zc : Nat} {m : Mp} {b c' : Nat} {hosts : List Int} (h : St W w (thDir 76 W.heap.size p g zc m (some ⟨b, 0, none⟩) hosts.length c' :: thInts W.heap.size b c' hosts :: L)) (hI : Inv m) (hhm : hosts.length ≤ 1000) (c : Ch) :
    Calls Try.prog 24 #[.pointer (some ⟨p, 0, none⟩), .agg #[.int .i64 c.kind, .int .i64 c.zone, .int .i64 c.epoch, .int .i64 c.tt, .string c.key]] w fun e w' => e = .returned (.bool (applyM hosts m c).isSome) ∧ St W w' (thDir 76 W.heap.size p g zc m (some ⟨b, 0, none⟩) hosts.length c' :: thInts W.heap.size b c' hosts :: L) := by
  obtain ⟨hp, c0, c1, c2, c3, hf⟩ := dir_cells h.head
  have Hz := Lib.hid h.head.2.1.at
  have H := Lib.hid h
  have HI := Lib.hid hI
  have Hhm := Lib.hid hhm
  have hm1 : 0 < m.zs.length := hI.pos
  have hm2 : m.zs.length ≤ 1000 := Nat.le_trans hI.len (by decide)
  obtain ⟨l, hl⟩ : ∃ l, l = m.zs := ⟨_, rfl⟩
  rw [← hl] at c2 hm1 hm2 Hz
  have Hl := Lib.hid hl
  clear h hI hhm hf hl
  go_enter Try.func24, Try.ntmps24
  go_wp2_with fail
  (refine wp_name fun wa hwa => ?_; have wa_s0 : p < wa.heap.size := (by rw [hwa]; first | omega | (simp; done) | (simp; omega)); have wa_s1 : w.heap.size < wa.heap.size := (by rw [hwa]; first | omega | (simp; done) | (simp; omega)); have wa_c0 : wa.cell? ⟨p, 0, none⟩ = some (.int .i64 m.ver) := (by rw [hwa]; go_simp); have wa_c1 : wa.cell? ⟨p, 1, none⟩ = some (.int .i64 m.next) := (by rw [hwa]; go_simp); have wa_c2 : wa.cell? ⟨p, 2, none⟩ = some (.slice (some ⟨g, 0, none⟩) l.length zc) := (by rw [hwa]; go_simp); have wa_c3 : wa.cell? ⟨p, 3, none⟩ = some (.slice (some ⟨b, 0, none⟩) hosts.length c') := (by rw [hwa]; go_simp); have wa_c4 : wa.cell? ⟨w.heap.size, 0, none⟩ = some (.int .i64 c.kind) := (by rw [hwa]; go_simp); have wa_c5 : wa.cell? ⟨w.heap.size, 1, none⟩ = some (.int .i64 c.zone) := (by rw [hwa]; go_simp); have wa_c6 : wa.cell? ⟨w.heap.size, 2, none⟩ = some (.int .i64 c.epoch) := (by rw [hwa]; go_simp); have wa_c7 : wa.cell? ⟨w.heap.size, 3, none⟩ = some (.int .i64 c.tt) := (by rw [hwa]; go_simp); have wa_c8 : wa.cell? ⟨w.heap.size, 4, none⟩ = some (.string c.key) := (by rw [hwa]; go_simp); have wa_b : Below w.heap.size w wa := (by rw [hwa]; exact (by repeat (first | with_reducible exact Below.refl _ _ | with_reducible assumption | with_reducible refine Below.drew ?_ | with_reducible refine below_drawn ?_ | with_reducible refine Below.alloc ?_ (by first | omega | (simp; done) | (simp; omega) | (simp at *; omega)) _ | with_reducible refine Below.setCell ?_ (by first | omega | (simp; done) | (simp; omega) | (simp at *; omega)) _ | with_reducible refine Below.trans ?_ (Below.mono (by assumption) (by first | omega | (simp; done) | (simp; omega) | (simp at *; omega)))))); clear hwa)
  have wa_le := wa_b.size
  have Hwa := Lib.hid wa_b
  clear c0 c1 c2 c3
  go_region_held3 (fun W => Below wa.heap.size wa W ∧ ∀ b o, b < wa.heap.size → W.cell? ⟨b, o, none⟩ = wa.cell? ⟨b, o, none⟩) (first | with_reducible exact stay_al (by assumption) | (first | exact stay_drew _ | exact stay_next (by assumption) (by assumption) | exact stay_mk (by repeat (first | with_reducible exact Below.refl _ _ | with_reducible exact stay_below (by assumption) | with_reducible refine Below.drew ?_ | with_reducible refine Below.alloc ?_ (by first | omega | (simp; done) | (simp; omega) | (simp at *; omega)) _ | with_reducible refine Below.setCell ?_ (by first | omega | (simp; done) | (simp; omega) | (simp at *; omega)) _ | with_reducible refine Below.trans ?_ (Below.mono (by assumption) (by first | omega | (simp; done) | (simp; omega) | (simp at *; omega))))))) (first | (go_at_call 36; refine (own_any (Hz.out.grow (Hwa.out.trans ((stay_below (by assumption)).mono wa_le))) hm1 hm2 m.ver m.next).mono ?_; rintro e W' ⟨g', k', rfl, ho', hbw⟩) | fail)
  all_goals
    rw [Hl.out] at ho'
    have S2 := ((H.out.grow Hwa.out).grow (Below.refl _ _).drew).mapRowD hbw ho'
    have S3 := Lib.hid (S2.boxDir (m := m) (ty := 76) (ho := some ⟨b, 0, none⟩) (hl := hosts.length) (hc := c'))
    have hia : Hid (IAtD (W'.alloc (.cells (dirCells m g' k' (some ⟨b, 0, none⟩) hosts.length c') 76)) (some ⟨b, 0, none⟩) hosts) := thInts.at (S3.out.mem (t := thInts W.heap.size b c' hosts) (by simp))
    have hz := hbw.size
    have hs0 : w.heap.size < W'.heap.size := Nat.lt_of_lt_of_le wa_s1 hz
    obtain ⟨xc, -⟩ := bcell hbw
    have x0 : W'.cell? ⟨w.heap.size, 0, none⟩ = some (.int .i64 c.kind) := (xc _ 0 wa_s1).trans wa_c4
    have x1 : W'.cell? ⟨w.heap.size, 1, none⟩ = some (.int .i64 c.zone) := (xc _ 1 wa_s1).trans wa_c5
    have x2 : W'.cell? ⟨w.heap.size, 2, none⟩ = some (.int .i64 c.epoch) := (xc _ 2 wa_s1).trans wa_c6
    have x3 : W'.cell? ⟨w.heap.size, 3, none⟩ = some (.int .i64 c.tt) := (xc _ 3 wa_s1).trans wa_c7
    have x4 : W'.cell? ⟨w.heap.size, 4, none⟩ = some (.string c.key) := (xc _ 4 wa_s1).trans wa_c8
    rw [Hl.out]
    clear xc S2 ho' hbw
    go_wp2_with fail
    refine (apply_any S3.out HI.out hia.out Hhm.out c).mono ?_
    rintro e w4 ⟨g4, zc4, rfl, hS⟩
    have S4 := Lib.hid hS.drop
    clear hS S3 hia
    go_wp2_with fail
    go_ret
    exact ⟨rfl, S4.out⟩
end Go.Proofs.Ytobnibdeimiinaa
