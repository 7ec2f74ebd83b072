/- The contracts of slices.Clone of zones, own, Map, Find: a directory's map is handed out. -/
import Derived.Test.YtobnibdeimiinaaDSt
import Derived.Test.YtobnibdeimiinaaSq
namespace Go.Proofs.Ytobnibdeimiinaa
open Go.RowKit

/-- A row of zones in new memory. -/
def FreshZ (w : World) (l : List Zn) (e : Ending) (w' : World) : Prop := ∃ g' c', e = .returned (.slice (some ⟨g', 0, none⟩) l.length c') ∧ OwnZ w' w.heap.size g' c' l ∧ Below w.heap.size w w'
def FreshM (w : World) (v n : Int) (l : List Zn) (e : Ending) (w' : World) : Prop := ∃ g' c', e = .returned (.agg #[.int .i64 v, .int .i64 n, .slice (some ⟨g', 0, none⟩) l.length c']) ∧ OwnZ w' w.heap.size g' c' l ∧ Below w.heap.size w w'
theorem ZnAt.cells {w : World} {g : Nat} {l : List Zn} (h : ZnAt w g l) (b : World) (hb : Below w.heap.size w b) : ∀ ad, (some ⟨g, 0, none⟩ : Option Addr) = some ad → ∀ j u, (znR l)[j]? = some u → b.cell? (ad.add j) = some u := by
  intro ad e j u hu
  obtain rfl := Option.some.inj e
  have hj := (List.getElem?_eq_some_iff.1 hu).1
  rw [znR_length] at hj
  rw [add_none, Nat.zero_add]
  obtain ⟨i, k, rfl, hk⟩ : ∃ i k, j = i * 9 + k ∧ k < 9 := ⟨j / 9, j % 9, by omega, by omega⟩
  have hi : i < l.length := by omega
  rw [znR_get l i hi k hk] at hu
  exact (hb.cell (p := ⟨g, _, none⟩) h.lt).trans (h.cell i hi k u hu)
theorem ownedZ {w : World} {base n : Nat} {v : Value} {l : List Zn} (h : w.ownsRow base 39 9 v n (znR l)) (hn : n = l.length) (hp : 0 < l.length) : ∃ g cap, v = .slice (some ⟨g, 0, none⟩) l.length cap ∧ OwnZ w base g cap l := by
  subst hn
  rcases h.2 with ⟨hv, h0⟩ | ⟨g, c, cur, hv, -⟩
  · omega
  · exact ⟨g, c, hv, by unfold OwnZ; rw [hv] at h; exact h⟩
set_option maxHeartbeats 1000000 in
theorem cloneZ_any {g zc : Nat} {l : List Zn} {w : World} (h : ZnAt w g l) (hp : 0 < l.length) (hm : l.length ≤ 1000) :
    Calls Try.prog 71 #[.slice (some ⟨g, 0, none⟩) l.length zc] w (FreshZ w l) := by
  have heq := fun w => Lib.run_eql_slice_nil (P := Try.prog) w 28 39 (some ⟨g, 0, none⟩) l.length zc 0 0 Try.underlying28
  obtain ⟨i0, hi, hz0, hz1, hz2⟩ := info_parts zoneInfo
  have Ha := Lib.hid h
  clear h
  go_enter Try.func71, Try.ntmps71
  go_wp2_with (at_builtin; go_must (refine wpList_append_any _ rfl (.tmp 5) (.tmp 6) 28 rfl w.heap.size 39 i0 (.agg zero9) 9 96 Try.underlying28 hi hz0 hz1 hz2 rfl (by decide) _ 0 [] rfl (owns_emptyAt _ w.heap.size rfl w.heap.size (Nat.le_refl _) 39 9) (some ⟨g, 0, none⟩) l.length zc (znR l) rfl (fun h => by cases h) (znR_length l) (Ha.out.cells _ ((Below.refl _ _).alloc (Nat.le_refl _) _)) (znR_one l) (by unfold maxLen; omega) (by omega) (by simp) ?_))
  intro v w1 hown hgrow
  have hb : Below w.heap.size w w1 := below_grown ((Below.refl _ _).alloc (Nat.le_refl _) _) (by simp) hgrow (fun k hk => by simp [Value.ownBlock] at hk; omega)
  obtain ⟨bo, c, hv, ho⟩ := ownedZ (l := l) (by simpa using hown) (Nat.zero_add _) hp
  have Ho := Lib.hid ho
  clear hown hgrow ho
  rw [hv]
  go_wp2_with fail
  go_ret
  exact ⟨bo, c, rfl, Ho.out, hb⟩
theorem OwnZ.weak {w : World} {base b2 g cap : Nat} {l : List Zn} (h : OwnZ w base g cap l) (hb : b2 ≤ base) : OwnZ w b2 g cap l := owns_weak h hb
theorem OwnZ.far {w : World} {base g cap x : Nat} {l : List Zn} (h : OwnZ w base g cap l) (hx : g ≠ x) (o : Nat) (v : Value) : OwnZ (w.setCell ⟨x, o, none⟩ v) base g cap l := h.keeps (Keeps.set w ⟨x, o, none⟩ v) hx
set_option maxHeartbeats 1000000 in
theorem own_any {g zc : Nat} {l : List Zn} {w : World} (h : ZnAt w g l) (hp : 0 < l.length) (hm : l.length ≤ 1000) (v n : Int) :
    Calls Try.prog 36 #[.agg #[.int .i64 v, .int .i64 n, .slice (some ⟨g, 0, none⟩) l.length zc]] w (FreshM w v n l) := by
  have Ha := Lib.hid h
  clear h
  go_enter Try.func36, Try.ntmps36
  go_wp2_with fail
  (refine calls_name fun wa hwa => ?_; have wa_s0 : w.heap.size < wa.heap.size := (by rw [hwa]; first | omega | (simp; done) | (simp; omega)); have wa_s1 : w.heap.size + 1 < wa.heap.size := (by rw [hwa]; first | omega | (simp; done) | (simp; omega)); have wa_c0 : wa.cell? ⟨w.heap.size, 0, none⟩ = some (.int .i64 v) := (by rw [hwa]; go_simp); have wa_c1 : wa.cell? ⟨w.heap.size, 1, none⟩ = some (.int .i64 n) := (by rw [hwa]; go_simp); have wa_c2 : wa.cell? ⟨w.heap.size, 2, none⟩ = some (.slice (some ⟨g, 0, none⟩) l.length zc) := (by rw [hwa]; go_simp); have wa_f2 : wa.frozen? ⟨w.heap.size, 2, none⟩ = false := (by rw [hwa]; go_simp); have wa_c3 : wa.cell? ⟨w.heap.size + 1, 0, none⟩ = some (.int .i64 0) := (by rw [hwa]; go_simp); have wa_f3 : wa.frozen? ⟨w.heap.size + 1, 0, none⟩ = false := (by rw [hwa]; go_simp); have wa_c4 : wa.cell? ⟨w.heap.size + 1, 1, none⟩ = some (.int .i64 0) := (by rw [hwa]; go_simp); have wa_f4 : wa.frozen? ⟨w.heap.size + 1, 1, none⟩ = false := (by rw [hwa]; go_simp); have wa_c5 : wa.cell? ⟨w.heap.size + 1, 2, none⟩ = some (.slice none 0 0) := (by rw [hwa]; go_simp); have wa_f5 : wa.frozen? ⟨w.heap.size + 1, 2, none⟩ = false := (by rw [hwa]; go_simp); have wa_b : Below w.heap.size w wa := (by rw [hwa]; exact (by repeat (first | with_reducible exact Below.refl _ _ | with_reducible assumption | with_reducible refine Below.drew ?_ | with_reducible refine below_drawn ?_ | with_reducible refine Below.alloc ?_ (by first | omega | (simp; done) | (simp; omega) | (simp at *; omega)) _ | with_reducible refine Below.setCell ?_ (by first | omega | (simp; done) | (simp; omega) | (simp at *; omega)) _ | with_reducible refine Below.trans ?_ (Below.mono (by assumption) (by first | omega | (simp; done) | (simp; omega) | (simp at *; omega)))))); clear hwa)
  refine (cloneZ_any (Ha.out.grow wa_b) hp hm).mono ?_
  rintro e w1 ⟨g', c', rfl, ho, hb⟩
  have Ho := Lib.hid ho
  have w1_b : Below w.heap.size w w1 := wa_b.trans (hb.mono (by omega))
  have hbs := hb.size
  obtain ⟨xc, xf⟩ := bcell hb
  have hn1 : g' ≠ w.heap.size := by have := ho.facts.1; omega
  have hn2 : g' ≠ w.heap.size + 1 := by have := ho.facts.1; omega
  have hwa : w.heap.size ≤ wa.heap.size := by omega
  clear ho hb
  go_wp2_with fail
  refine bodyPost_ret (v := .agg #[.int .i64 v, .int .i64 n, .slice (some ⟨g', 0, none⟩) l.length c']) (by simp only [results, Try.results36]; go_simp) rfl ⟨g', c', rfl, ?_, ?_⟩
  · exact ((((Ho.out.weak hwa).far hn1 _ _).far hn2 _ _).far hn2 _ _).far hn2 _ _
  · exact (((w1_b.setCell (Nat.le_refl _) _).setCell (Nat.le_succ _) _).setCell (Nat.le_succ _) _).setCell (Nat.le_succ _) _
set_option maxHeartbeats 1000000 in
theorem map_any {ty : TypeId} {base p g zc : Nat} {m : Mp} {ho : Option Addr} {hl hc : Nat} {w : World} (h : (thDir ty base p g zc m ho hl hc).T w) (hp0 : 0 < m.zs.length) (hm : m.zs.length ≤ 1000) :
    Calls Try.prog 14 #[.pointer (some ⟨p, 0, none⟩)] w (FreshM w m.ver m.next m.zs) := by
  obtain ⟨hp, c0, c1, c2, c3, hf⟩ := dir_cells h
  have Hz := Lib.hid h.2.1.at
  obtain ⟨l, hL⟩ : ∃ l, l = m.zs := ⟨_, rfl⟩
  rw [← hL] at Hz c2 hm hp0 ⊢
  clear h hf c3 hL
  go_enter Try.func14, Try.ntmps14
  go_wp2_with fail
  (refine calls_name fun wa hwa => ?_; have wa_s0 : w.heap.size < wa.heap.size := (by rw [hwa]; first | omega | (simp; done) | (simp; omega)); have wa_c0 : wa.cell? ⟨w.heap.size, 0, none⟩ = some (.int .i64 0) := (by rw [hwa]; go_simp); have wa_f0 : wa.frozen? ⟨w.heap.size, 0, none⟩ = false := (by rw [hwa]; go_simp); have wa_c1 : wa.cell? ⟨w.heap.size, 1, none⟩ = some (.int .i64 0) := (by rw [hwa]; go_simp); have wa_f1 : wa.frozen? ⟨w.heap.size, 1, none⟩ = false := (by rw [hwa]; go_simp); have wa_c2 : wa.cell? ⟨w.heap.size, 2, none⟩ = some (.slice none 0 0) := (by rw [hwa]; go_simp); have wa_f2 : wa.frozen? ⟨w.heap.size, 2, none⟩ = false := (by rw [hwa]; go_simp); have wa_b : Below w.heap.size w wa := (by rw [hwa]; exact (by repeat (first | with_reducible exact Below.refl _ _ | with_reducible assumption | with_reducible refine Below.drew ?_ | with_reducible refine below_drawn ?_ | with_reducible refine Below.alloc ?_ (by first | omega | (simp; done) | (simp; omega) | (simp at *; omega)) _ | with_reducible refine Below.setCell ?_ (by first | omega | (simp; done) | (simp; omega) | (simp at *; omega)) _ | with_reducible refine Below.trans ?_ (Below.mono (by assumption) (by first | omega | (simp; done) | (simp; omega) | (simp at *; omega)))))); clear hwa)
  refine (own_any (Hz.out.grow wa_b) hp0 hm _ _).mono ?_
  rintro e w1 ⟨g', c', rfl, ho, hb⟩
  have Ho := Lib.hid ho
  have w1_b : Below w.heap.size w w1 := wa_b.trans (hb.mono (by omega))
  have hbs := hb.size
  obtain ⟨xc, xf⟩ := bcell hb
  have hn1 : g' ≠ w.heap.size := by have := ho.facts.1; omega
  have hwa : w.heap.size ≤ wa.heap.size := by omega
  clear ho hb
  go_wp2_with fail
  refine bodyPost_ret (v := .agg #[.int .i64 m.ver, .int .i64 m.next, .slice (some ⟨g', 0, none⟩) l.length c']) (by simp only [results, Try.results14]; go_simp) rfl ⟨g', c', rfl, ?_, ?_⟩
  · exact (((Ho.out.weak hwa).far hn1 _ _).far hn1 _ _).far hn1 _ _
  · exact ((w1_b.setCell (Nat.le_refl _) _).setCell (Nat.le_refl _) _).setCell (Nat.le_refl _) _
theorem map_nil (w : World) : Calls Try.prog 14 #[.pointer none] w fun e w' => e = .returned (.agg #[.int .i64 0, .int .i64 0, .slice none 0 0]) ∧ Below w.heap.size w w' := by
  go_enter Try.func14, Try.ntmps14
  go_wp2_with fail
  exact bodyPost_ret (v := .agg #[.int .i64 0, .int .i64 0, .slice none 0 0]) (by simp only [results, Try.results14]; go_simp) rfl ⟨rfl, (by repeat (first | with_reducible exact Below.refl _ _ | with_reducible assumption | with_reducible refine Below.drew ?_ | with_reducible refine below_drawn ?_ | with_reducible refine Below.alloc ?_ (by first | omega | (simp; done) | (simp; omega) | (simp at *; omega)) _ | with_reducible refine Below.setCell ?_ (by first | omega | (simp; done) | (simp; omega) | (simp at *; omega)) _ | with_reducible refine Below.trans ?_ (Below.mono (by assumption) (by first | omega | (simp; done) | (simp; omega) | (simp at *; omega)))))⟩
/-- The first zone that has a key. -/
def hasZ (l : List Zn) (k : ByteArray) : Option Zn := l.find? fun z => inB z.fr z.to k
def zz0 : Zn := ⟨0, ⟨#[]⟩, ⟨#[]⟩, 0, 0, 0, 0, ⟨#[]⟩, 0⟩
theorem findZn_nil (w : World) (k : ByteArray) : Calls Try.prog 22 #[.pointer none, .string k] w fun e w' => e = .returned (.tuple #[.agg #[.int .i64 zz0.id, .string zz0.fr, .string zz0.to, .int .i64 zz0.owner, .int .i64 zz0.epoch, .int .i64 zz0.pend, .int .i64 zz0.tt, .string zz0.key, .int .i64 zz0.nw], .bool false]) ∧ Below w.heap.size w w' := by
  go_enter Try.func22, Try.ntmps22
  go_wp2_with fail
  exact bodyPost_ret (v := .tuple #[.agg #[.int .i64 zz0.id, .string zz0.fr, .string zz0.to, .int .i64 zz0.owner, .int .i64 zz0.epoch, .int .i64 zz0.pend, .int .i64 zz0.tt, .string zz0.key, .int .i64 zz0.nw], .bool false]) (by simp only [results, Try.results22]; go_simp; simp [zz0]) rfl ⟨rfl, (by repeat (first | with_reducible exact Below.refl _ _ | with_reducible assumption | with_reducible refine Below.drew ?_ | with_reducible refine below_drawn ?_ | with_reducible refine Below.alloc ?_ (by first | omega | (simp; done) | (simp; omega) | (simp at *; omega)) _ | with_reducible refine Below.setCell ?_ (by first | omega | (simp; done) | (simp; omega) | (simp at *; omega)) _ | with_reducible refine Below.trans ?_ (Below.mono (by assumption) (by first | omega | (simp; done) | (simp; omega) | (simp at *; omega)))))⟩
theorem hasZ_at {l : List Zn} {k : ByteArray} {i : Nat} (hi : i < l.length) (hp : inB l[i].fr l[i].to k = true) (h : ∀ j (hj : j < l.length), j < i → inB l[j].fr l[j].to k = false) : hasZ l k = some l[i] := by
  rw [hasZ, List.find?_eq_some_iff_getElem]
  exact ⟨hp, i, hi, rfl, fun j hj => by rw [h j (by omega) hj]; rfl⟩
theorem hasZ_none {l : List Zn} {k : ByteArray} (h : ∀ j (hj : j < l.length), inB l[j].fr l[j].to k = false) : hasZ l k = none := by
  rw [hasZ, List.find?_eq_none]
  intro x hx
  obtain ⟨j, hj, rfl⟩ := List.getElem_of_mem hx
  rw [h j hj]; decide
def FindPost (w : World) (r : Option Zn) (e : Ending) (w' : World) : Prop := e = .returned (.tuple #[.agg #[.int .i64 (r.getD zz0).id, .string (r.getD zz0).fr, .string (r.getD zz0).to, .int .i64 (r.getD zz0).owner, .int .i64 (r.getD zz0).epoch, .int .i64 (r.getD zz0).pend, .int .i64 (r.getD zz0).tt, .string (r.getD zz0).key, .int .i64 (r.getD zz0).nw], .bool r.isSome]) ∧ Below w.heap.size w w'
set_option maxRecDepth 20000 in
set_option maxHeartbeats 2000000 in
theorem findZn_any {ty : TypeId} {base p g zc : Nat} {m : Mp} {ho : Option Addr} {hl hc : Nat} {w : World} (h : (thDir ty base p g zc m ho hl hc).T w) (hm : m.zs.length ≤ 1000) (k : ByteArray) :
    Calls Try.prog 22 #[.pointer (some ⟨p, 0, none⟩), .string k] w (FindPost w (hasZ m.zs k)) := by
  obtain ⟨hp, c0, c1, c2, c3, hf⟩ := dir_cells h
  have Hz := Lib.hid h.2.1.at
  obtain ⟨l, hL⟩ : ∃ l, l = m.zs := ⟨_, rfl⟩
  rw [← hL] at Hz c2 hm ⊢
  have hg := Hz.out.lt
  clear h hf c0 c1 c3 hL
  go_enter Try.func22, Try.ntmps22
  go_wp2_with fail
  (refine wp_name fun wa hwa => ?_; have wa_s0 : w.heap.size < wa.heap.size := (by rw [hwa]; first | omega | (simp; done) | (simp; omega)); have wa_s1 : g < wa.heap.size := (by rw [hwa]; first | omega | (simp; done) | (simp; omega)); have wa_s2 : p < wa.heap.size := (by rw [hwa]; first | omega | (simp; done) | (simp; omega)); have wa_c0 : wa.cell? ⟨w.heap.size, 0, none⟩ = some (.int .i64 0) := (by rw [hwa]; go_simp); have wa_f0 : wa.frozen? ⟨w.heap.size, 0, none⟩ = false := (by rw [hwa]; go_simp); have wa_c1 : wa.cell? ⟨w.heap.size, 1, none⟩ = some (.string ⟨#[]⟩) := (by rw [hwa]; go_simp); have wa_f1 : wa.frozen? ⟨w.heap.size, 1, none⟩ = false := (by rw [hwa]; go_simp); have wa_c2 : wa.cell? ⟨w.heap.size, 2, none⟩ = some (.string ⟨#[]⟩) := (by rw [hwa]; go_simp); have wa_f2 : wa.frozen? ⟨w.heap.size, 2, none⟩ = false := (by rw [hwa]; go_simp); have wa_c3 : wa.cell? ⟨w.heap.size, 3, none⟩ = some (.int .i64 0) := (by rw [hwa]; go_simp); have wa_f3 : wa.frozen? ⟨w.heap.size, 3, none⟩ = false := (by rw [hwa]; go_simp); have wa_c4 : wa.cell? ⟨w.heap.size, 4, none⟩ = some (.int .i64 0) := (by rw [hwa]; go_simp); have wa_f4 : wa.frozen? ⟨w.heap.size, 4, none⟩ = false := (by rw [hwa]; go_simp); have wa_c5 : wa.cell? ⟨w.heap.size, 5, none⟩ = some (.int .i64 0) := (by rw [hwa]; go_simp); have wa_f5 : wa.frozen? ⟨w.heap.size, 5, none⟩ = false := (by rw [hwa]; go_simp); have wa_c6 : wa.cell? ⟨w.heap.size, 6, none⟩ = some (.int .i64 0) := (by rw [hwa]; go_simp); have wa_f6 : wa.frozen? ⟨w.heap.size, 6, none⟩ = false := (by rw [hwa]; go_simp); have wa_c7 : wa.cell? ⟨w.heap.size, 7, none⟩ = some (.string ⟨#[]⟩) := (by rw [hwa]; go_simp); have wa_f7 : wa.frozen? ⟨w.heap.size, 7, none⟩ = false := (by rw [hwa]; go_simp); have wa_c8 : wa.cell? ⟨w.heap.size, 8, none⟩ = some (.int .i64 0) := (by rw [hwa]; go_simp); have wa_f8 : wa.frozen? ⟨w.heap.size, 8, none⟩ = false := (by rw [hwa]; go_simp); have wa_b : Below w.heap.size w wa := (by rw [hwa]; exact (by repeat (first | with_reducible exact Below.refl _ _ | with_reducible assumption | with_reducible refine Below.drew ?_ | with_reducible refine below_drawn ?_ | with_reducible refine Below.alloc ?_ (by first | omega | (simp; done) | (simp; omega) | (simp at *; omega)) _ | with_reducible refine Below.setCell ?_ (by first | omega | (simp; done) | (simp; omega) | (simp at *; omega)) _ | with_reducible refine Below.trans ?_ (Below.mono (by assumption) (by first | omega | (simp; done) | (simp; omega) | (simp at *; omega)))))); clear hwa)
  have hwa : w.heap.size ≤ wa.heap.size := by omega
  go_loopw [17] (fun s wr => ∃ i : Nat, s = .int .i64 i ∧ i ≤ l.length ∧ Hid (∀ j (hj : j < l.length), j < i → inB l[j].fr l[j].to k = false) ∧ Hid (Below wa.heap.size wa wr)) (fun s _ => l.length - (intOf s).toNat)
  case atStart => exact ⟨0, rfl, by omega, fun j _ hj => by omega, Lib.hid (Below.refl _ _)⟩
  case round =>
    obtain ⟨i, rfl, hi, Hne, Hb⟩ := hrel
    have wr_w : Below w.heap.size w wr := wa_b.trans (Hb.out.mono hwa)
    have hsr := Hb.out.size
    have hNr : w.heap.size < wr.heap.size := by omega
    have wr_b := Hb.out
    obtain ⟨xc, xf⟩ := bcell Hb.out
    by_cases hlt : i < l.length
    · obtain ⟨z, hz⟩ : ∃ z, z = l[i] := ⟨_, rfl⟩
      obtain ⟨d0, d1, d2, d3, d4, d5, d6, d7, d8⟩ := (Hz.out.grow wa_b).nine i hlt z hz
      have Hv := Lib.hid hz
      have hgr : g < wr.heap.size := by omega
      obtain ⟨b, hb⟩ : ∃ b, b = inB z.fr z.to k := ⟨_, rfl⟩
      have hin := fun w => span_in z.fr z.to k w
      rw [← hb] at hin
      have Hin := Lib.hid hin
      have Hbb := Lib.hid hb
      clear hz hb hin
      go_wp2_with fail
      (refine calls_name fun wx hwx => ?_; have wx_s0 : w.heap.size < wx.heap.size := (by rw [hwx]; first | omega | (simp; done) | (simp; omega)); have wx_s1 : g < wx.heap.size := (by rw [hwx]; first | omega | (simp; done) | (simp; omega)); have wx_s2 : wr.heap.size < wx.heap.size := (by rw [hwx]; first | omega | (simp; done) | (simp; omega)); have wx_c0 : wx.cell? ⟨w.heap.size, 0, none⟩ = some (.int .i64 0) := (by rw [hwx]; go_simp); have wx_f0 : wx.frozen? ⟨w.heap.size, 0, none⟩ = false := (by rw [hwx]; go_simp); have wx_c1 : wx.cell? ⟨w.heap.size, 1, none⟩ = some (.string ⟨#[]⟩) := (by rw [hwx]; go_simp); have wx_f1 : wx.frozen? ⟨w.heap.size, 1, none⟩ = false := (by rw [hwx]; go_simp); have wx_c2 : wx.cell? ⟨w.heap.size, 2, none⟩ = some (.string ⟨#[]⟩) := (by rw [hwx]; go_simp); have wx_f2 : wx.frozen? ⟨w.heap.size, 2, none⟩ = false := (by rw [hwx]; go_simp); have wx_c3 : wx.cell? ⟨w.heap.size, 3, none⟩ = some (.int .i64 0) := (by rw [hwx]; go_simp); have wx_f3 : wx.frozen? ⟨w.heap.size, 3, none⟩ = false := (by rw [hwx]; go_simp); have wx_c4 : wx.cell? ⟨w.heap.size, 4, none⟩ = some (.int .i64 0) := (by rw [hwx]; go_simp); have wx_f4 : wx.frozen? ⟨w.heap.size, 4, none⟩ = false := (by rw [hwx]; go_simp); have wx_c5 : wx.cell? ⟨w.heap.size, 5, none⟩ = some (.int .i64 0) := (by rw [hwx]; go_simp); have wx_f5 : wx.frozen? ⟨w.heap.size, 5, none⟩ = false := (by rw [hwx]; go_simp); have wx_c6 : wx.cell? ⟨w.heap.size, 6, none⟩ = some (.int .i64 0) := (by rw [hwx]; go_simp); have wx_f6 : wx.frozen? ⟨w.heap.size, 6, none⟩ = false := (by rw [hwx]; go_simp); have wx_c7 : wx.cell? ⟨w.heap.size, 7, none⟩ = some (.string ⟨#[]⟩) := (by rw [hwx]; go_simp); have wx_f7 : wx.frozen? ⟨w.heap.size, 7, none⟩ = false := (by rw [hwx]; go_simp); have wx_c8 : wx.cell? ⟨w.heap.size, 8, none⟩ = some (.int .i64 0) := (by rw [hwx]; go_simp); have wx_f8 : wx.frozen? ⟨w.heap.size, 8, none⟩ = false := (by rw [hwx]; go_simp); have wx_c9 : wx.cell? ⟨wr.heap.size, 0, none⟩ = some (.int .i64 z.id) := (by rw [hwx]; go_simp); have wx_c10 : wx.cell? ⟨wr.heap.size, 1, none⟩ = some (.string z.fr) := (by rw [hwx]; go_simp); have wx_c11 : wx.cell? ⟨wr.heap.size, 2, none⟩ = some (.string z.to) := (by rw [hwx]; go_simp); have wx_c12 : wx.cell? ⟨wr.heap.size, 3, none⟩ = some (.int .i64 z.owner) := (by rw [hwx]; go_simp); have wx_c13 : wx.cell? ⟨wr.heap.size, 4, none⟩ = some (.int .i64 z.epoch) := (by rw [hwx]; go_simp); have wx_c14 : wx.cell? ⟨wr.heap.size, 5, none⟩ = some (.int .i64 z.pend) := (by rw [hwx]; go_simp); have wx_c15 : wx.cell? ⟨wr.heap.size, 6, none⟩ = some (.int .i64 z.tt) := (by rw [hwx]; go_simp); have wx_c16 : wx.cell? ⟨wr.heap.size, 7, none⟩ = some (.string z.key) := (by rw [hwx]; go_simp); have wx_c17 : wx.cell? ⟨wr.heap.size, 8, none⟩ = some (.int .i64 z.nw) := (by rw [hwx]; go_simp); have wx_b : Below wa.heap.size wa wx := (by rw [hwx]; exact (by repeat (first | with_reducible exact Below.refl _ _ | with_reducible assumption | with_reducible refine Below.drew ?_ | with_reducible refine below_drawn ?_ | with_reducible refine Below.alloc ?_ (by first | omega | (simp; done) | (simp; omega) | (simp at *; omega)) _ | with_reducible refine Below.setCell ?_ (by first | omega | (simp; done) | (simp; omega) | (simp at *; omega)) _ | with_reducible refine Below.trans ?_ (Below.mono (by assumption) (by first | omega | (simp; done) | (simp; omega) | (simp at *; omega)))))); clear hwx)
      clear xc xf d0 d1 d2 d3 d4 d5 d6 d7 d8
      refine (Hin.out _).mono ?_
      rintro e w1 ⟨rfl, hbw⟩
      obtain ⟨xc, xf⟩ := bcell hbw
      have hb1 : Below wa.heap.size wa w1 := wx_b.trans (hbw.mono wx_b.size)
      have hw1 : Below w.heap.size w w1 := wa_b.trans (hb1.mono hwa)
      have hz1 := hbw.size
      clear hbw
      cases b
      · clear xc xf
        go_wp2_with fail
        go_roundw
        case rel => exact ⟨i + 1, by go_num, by omega, fun j hj hji => by
          by_cases h : j = i
          · subst h; rw [← Hv.out]; exact Hbb.out.symm
          · exact Hne.out j hj (by omega), Lib.hid hb1⟩
        case measure => simp [intOf]; omega
      · go_wp2_with fail
        refine bodyPost_ret (v := .tuple #[.agg #[.int .i64 z.id, .string z.fr, .string z.to, .int .i64 z.owner, .int .i64 z.epoch, .int .i64 z.pend, .int .i64 z.tt, .string z.key, .int .i64 z.nw], .bool true]) (by simp only [results, Try.results22]; go_simp) rfl ?_
        have hh := hasZ_at hlt (by rw [← Hv.out]; exact Hbb.out.symm) Hne.out
        rw [hh, ← Hv.out]
        exact ⟨rfl, (((((((((hw1.setCell (Nat.le_refl _) _).setCell (Nat.le_refl _) _).setCell (Nat.le_refl _) _).setCell (Nat.le_refl _) _).setCell (Nat.le_refl _) _).setCell (Nat.le_refl _) _).setCell (Nat.le_refl _) _).setCell (Nat.le_refl _) _).setCell (Nat.le_refl _) _)⟩
    · go_wp2_with fail
      refine bodyPost_ret (v := .tuple #[.agg #[.int .i64 zz0.id, .string zz0.fr, .string zz0.to, .int .i64 zz0.owner, .int .i64 zz0.epoch, .int .i64 zz0.pend, .int .i64 zz0.tt, .string zz0.key, .int .i64 zz0.nw], .bool false]) (by simp only [results, Try.results22]; go_simp; simp [zz0]) rfl ?_
      have hh := hasZ_none (l := l) (k := k) (fun j hj => Hne.out j hj (by omega))
      rw [hh]
      exact ⟨rfl, (((((((((wr_w.setCell (Nat.le_refl _) _).setCell (Nat.le_refl _) _).setCell (Nat.le_refl _) _).setCell (Nat.le_refl _) _).setCell (Nat.le_refl _) _).setCell (Nat.le_refl _) _).setCell (Nat.le_refl _) _).setCell (Nat.le_refl _) _).setCell (Nat.le_refl _) _)⟩
end Go.Proofs.Ytobnibdeimiinaa
